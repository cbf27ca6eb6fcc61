/- Metamers: a truth by which two chips part. -/
import Derived.Test.YtfgdbeijjbijnaaGreatDoorJG20
set_option linter.unusedSimpArgs false
set_option linter.unusedVariables false
set_option linter.unusedSimpArgs false
set_option linter.unusedVariables false
set_option maxRecDepth 100000
namespace Go.Proofs.YtfgdbeijjbijnaaGreatDoor.Me
open Go Go.Abs Go.Proofs
def Fp : List (Nat × List Nat) := [(0, [1, 2, 3, 6]), (1, [1, 2, 6, 8, 9]), (2, [1, 2, 6, 8, 9, 24]), (3, [6, 7]), (4, [6, 8, 10, 11]), (5, [6, 8, 10, 36]), (6, [6, 7]), (7, [6, 8, 10, 12]), (8, [6, 8, 10, 12, 45, 46, 47]), (9, [6, 8, 10, 12, 45, 46, 47, 48]), (10, [6, 8, 10, 12, 14, 45, 46, 47]), (11, [6, 8, 10, 12, 45, 46, 47]), (12, [6, 8, 10, 12, 45, 46, 47]), (13, [6, 8, 10, 12, 61]), (14, [6, 8, 10, 12]), (15, [6, 12]), (16, [6, 7])]
theorem CU : lookK Fp 0 = some [1, 2, 3, 6] ∧ lookK Fp 1 = some [1, 2, 6, 8, 9] ∧ lookK Fp 2 = some [1, 2, 6, 8, 9, 24] ∧ lookK Fp 3 = some [6, 7] ∧ lookK Fp 4 = some [6, 8, 10, 11] ∧ lookK Fp 5 = some [6, 8, 10, 36] ∧ lookK Fp 6 = some [6, 7] ∧ lookK Fp 7 = some [6, 8, 10, 12] ∧ lookK Fp 8 = some [6, 8, 10, 12, 45, 46, 47] ∧ lookK Fp 9 = some [6, 8, 10, 12, 45, 46, 47, 48] ∧ lookK Fp 10 = some [6, 8, 10, 12, 14, 45, 46, 47] ∧ lookK Fp 11 = some [6, 8, 10, 12, 45, 46, 47] ∧ lookK Fp 12 = some [6, 8, 10, 12, 45, 46, 47] ∧ lookK Fp 13 = some [6, 8, 10, 12, 61] ∧ lookK Fp 14 = some [6, 8, 10, 12] ∧ lookK Fp 15 = some [6, 12] ∧ lookK Fp 16 = some [6, 7] := ⟨rfl, rfl, rfl, rfl, rfl, rfl, rfl, rfl, rfl, rfl, rfl, rfl, rfl, rfl, rfl, rfl, rfl⟩
def skE : Eff → Eff
 | .put id (.vec n sz _) => .put id (.vec n sz [])
 | e => e
def skN (a : BO) : BO := { a with e := skE a.e }
def MV : Eff → Prop
 | .put _ (.vec _ _ cs) => ∀ id, C.freeL id cs = true
 | _ => True
theorem aCk {e : Eff} (h : MV e) (id : Nat) : (skE e).freeB id = e.freeB id := by
 unfold skE
 split
 ·simp only [MV] at h
  simp only [Eff.freeB, h id, C.freeL]
 ·rfl
theorem aCl (e : Eff) : (skE e).hole = e.hole := by unfold skE; split <;> rfl
theorem aCm (e : Eff) : (skE e).wide = e.wide := by unfold skE; split <;> rfl
theorem aEE (e : Eff) : (skE e).loc = e.loc := by unfold skE; split <;> rfl
theorem G4 {α : Type} {l : List α} {p q : α → Bool} (h : ∀ a ∈ l, p a = q a) : l.all p = l.all q := by
 rw [Bool.eq_iff_iff, List.all_eq_true, List.all_eq_true]
 exact ⟨fun h2 a ha => by rw [← h a ha]; exact h2 a ha, fun h2 a ha => by rw [h a ha]; exact h2 a ha⟩
theorem G6 {m3 : Bool} {ops : Array Oper} {acc : List BO} (hv : ∀ a ∈ acc, MV a.e) (h : CC m3 ops (acc.map skN) = true) : CC m3 ops acc = true := by
 have e1 : NY m3 ops (acc.map skN) = NY m3 ops acc := by
  simp only [NY, List.all_map, Function.comp_def]; rfl
 have e2 : ∀ tab, Ik m3 tab ops (acc.map skN) = Ik m3 tab ops acc := fun tab => by
  simp only [Ik, List.all_map, Function.comp_def]; rfl
 have e3 : ∀ tab, Kw tab (acc.map skN) = Kw tab acc := fun tab => by
  simp only [Kw, List.all_map, Function.comp_def]
  refine G4 fun b hb => ?_
  show (match (skE b.e).hole with | none => true | some id => acc.all fun a => a.at' == b.at' || (List.range (skE b.e).wide).all (fun k => a.x.free (id + k) && (skE a.e).freeB (id + k)) || (tab.getD a.at' 0).testBit b.at') = _
  rw [aCl, aCm]
  cases b.e.hole with
  | none => rfl
  | some id =>
   refine G4 fun a ha => ?_
   simp only [aCk (hv a ha)]
 have e4 : (acc.map skN).all (fun a => a.e.loc) = acc.all (fun a => a.e.loc) := by
  simp only [List.all_map, Function.comp_def]
  exact G4 fun a _ => aEE a.e
 unfold CC at h ⊢
 rw [e1, e2, e3, e4] at h
 exact h
def atI (pl : Int × Int) (c : Cs) (i b : Nat) : Int := if (i : Int) = pl.1 ∧ (b : Int) = pl.2 then (c.e i b).hi else (c.e i b).lo
def atL (pl : Int × Int) (c : Cs) (b : Nat) : Int := if (b : Int) = pl.2 then (c.l b).hi else (c.l b).lo
def partT (c : Cs) (pl : Int × Int) : Tr := ⟨(List.range 3).map (fun i => (List.range c.lamp.length).map (atI pl c i)), (List.range c.lamp.length).map (atL pl c)⟩
def partR (c : Cs) (a b : List Int) : Tr × Int := if okChips c a b = 0 then (if partB c (lessL a b) then (partT c (partP c (lessL a b)), 0) else (⟨[], []⟩, 5)) else (⟨[], []⟩, okChips c a b)
def pgV (c : Cs) (a b : List Int) : V := .tup [trV (partR c a b).1, I (partR c a b).2]
theorem pgV_of {c : Cs} {a b : List Int} {x : Tr} {e : Int} (h : partR c a b = (x, e)) : pgV c a b = .tup [trV x, I e] := by rw [pgV, h]
def vI (n : Nat) (l : List Int) : AB := .vec n 1 (Bp l)
def dI (l : List Int) : D := .sl (l.map iD)
theorem Gj (l : List Int) : DY (Bp l) = some (l.map (fun x => D.int .i64 x)) := by
 have e : Bp l = (l.map (fun x => D.int .i64 x)).map C.d := by simp [Bp, iC]
 rw [e, Iu]
theorem RY (l : List Int) : BC 1 l.length (l.map (fun x => D.int .i64 x)) = l.map iD := by
 induction l with
 | nil => rfl
 | cons a l ih => simp only [List.length_cons, List.map_cons, BC]; simp only [List.take_succ_cons, List.take_zero, List.drop_succ_cons, List.drop_zero]; rw [ih]; rfl
theorem Ey {n : Nat} {l : List Int} (h : l.length = n) : D.sl (BC 1 n (l.map (fun x => D.int .i64 x))) = dI l := by rw [← h, RY]; rfl
theorem frz {X : Cx} {A B C' P : AB} {n : Nat} {l4 l7 l8 l9 : List Int} {sl : List (Nat × V)} {c0 c1 c2 c3 : List C} (hA : A = .cells c0) (hB : B = .cells c1) (hC : C' = .cells c2) (hP : P = .cells c3)
  (f0 : ∀ id m x, c0.map (fzN id m x) = c0) (f1 : ∀ id m x, c1.map (fzN id m x) = c1) (f2 : ∀ id m x, c2.map (fzN id m x) = c2) (f3 : ∀ id m x, c3.map (fzN id m x) = c3)
  (hsl : ∀ i id m x, RA id m x (Aw sl i) = Aw sl i) (hn : n ≤ 4096) (h4 : l4.length = n) (h7 : l7.length = n) (h8 : l8.length = n) (h9 : l9.length = n) :
  Ent X { slots := sl, heap := [A, B, C', P, vI n l4, .cells [.vs 6 3, .vs 4 n], .vec 3 1 [.vs 7 n, .vs 8 n, .vs 9 n], vI n l7, vI n l8, vI n l9], marks := [] }
   {slots := sl, heap := [A, B, C', P, .gone, .cells [.d (.sl [[dI l7], [dI l8], [dI l9]]), .d (dI l4)], .gone, .gone, .gone, .gone], marks := [] } := by
 subst hA; subst hB; subst hC; subst hP
 have fI : ∀ id m x (l : List Int), (Bp l).map (fzN id m x) = Bp l := fun id m x l => by
  simp only [Bp, List.map_map]; exact List.map_congr_left fun a _ => rfl
 have e4 := Ey h4
 have e7 := Ey h7
 have e8 := Ey h8
 have e9 := Ey h9
 have hl : n ≤ lim := by unfold lim; omega
 refine Ent.trans (EP (s' := { slots := sl, heap := [.cells c0, .cells c1, .cells c2, .cells c3, vI n l4, .cells [.vs 6 3, .vs 4 n], .vec 3 1 [.d (dI l7), .vs 8 n, .vs 9 n], .gone, vI n l8, vI n l9], marks := [] }) 7 (n := n) (sz := 1) (cs := Bp l7) rfl (Gj l7) (by decide) hl rfl ?_ (fun i => .inl (hsl i _ _ _).symm)) ?_
 ·rw [e7]; simp [Mh, fzN, f0, f1, f2, f3, vI, fI]
 refine Ent.trans (EP (s' := { slots := sl, heap := [.cells c0, .cells c1, .cells c2, .cells c3, vI n l4, .cells [.vs 6 3, .vs 4 n], .vec 3 1 [.d (dI l7), .d (dI l8), .vs 9 n], .gone, .gone, vI n l9], marks := [] }) 8 (n := n) (sz := 1) (cs := Bp l8) rfl (Gj l8) (by decide) hl rfl ?_ (fun i => .inl (hsl i _ _ _).symm)) ?_
 ·rw [e8]; simp [Mh, fzN, f0, f1, f2, f3, vI, fI]
 refine Ent.trans (EP (s' := { slots := sl, heap := [.cells c0, .cells c1, .cells c2, .cells c3, vI n l4, .cells [.vs 6 3, .vs 4 n], .vec 3 1 [.d (dI l7), .d (dI l8), .d (dI l9)], .gone, .gone, .gone], marks := [] }) 9 (n := n) (sz := 1) (cs := Bp l9) rfl (Gj l9) (by decide) hl rfl ?_ (fun i => .inl (hsl i _ _ _).symm)) ?_
 ·rw [e9]; simp [Mh, fzN, f0, f1, f2, f3, vI, fI]
 refine Ent.trans (EP (s' := { slots := sl, heap := [.cells c0, .cells c1, .cells c2, .cells c3, vI n l4, .cells [.d (.sl [[dI l7], [dI l8], [dI l9]]), .vs 4 n], .gone, .gone, .gone, .gone], marks := [] }) 6 (n := 3) (sz := 1) (cs := [.d (dI l7), .d (dI l8), .d (dI l9)]) (ds := [dI l7, dI l8, dI l9]) rfl rfl (by decide) (by unfold lim; omega) rfl ?_ (fun i => .inl (hsl i _ _ _).symm)) ?_
 ·simp [Mh, fzN, f0, f1, f2, f3, vI, fI, BC]
 refine EP 4 (n := n) (sz := 1) (cs := Bp l4) rfl (Gj l4) (by decide) hl rfl ?_ (fun i => .inl (hsl i _ _ _).symm)
 rw [e4]; simp [Mh, fzN, f0, f1, f2, f3]
theorem aOY {α : Type} {l : List α} (h : l.length = 3) : ∃ a b c, l = [a, b, c] := by
 match l, h with
 | [a, b, c], _ => exact ⟨a, b, c, rfl⟩
def HQ (c : Cs) (i b : Int) : List AB := [.cells (csC c), .cells [.full [], .full []], .cells (csC c), .cells (plC i b)]
def slQ (i : Int) (r : List (List Rg)) : List (Nat × V) := [(6, .c (.ptr 1 0)), (8, .c (.ptr 2 0)), (10, .c (.ptr 3 0)), (12, .c (.ptr 5 0)), (45, D2 r), (46, I 3), (47, I i)]
theorem y0 : ((0 : Nat) : Int) = 0 := rfl
theorem y1 : ((1 : Nat) : Int) = 1 := rfl
theorem y2 : ((2 : Nat) : Int) = 2 := rfl
theorem y3 : ((3 : Nat) : Int) = 3 := rfl
def hE (n : Nat) (r0 r1 r2 : List Rg) : Nat → List AB
 | 0 => [.cells [.vs 6 0, .vs 4 n], .vec 0 1 []]
 | 1 => [.cells [.vs 6 1, .vs 4 n], .vec 1 1 [.vs 7 n], vI n (Bc r0)]
 | 2 => [.cells [.vs 6 2, .vs 4 n], .vec 2 1 [.vs 7 n, .vs 8 n], vI n (Bc r0), vI n (Bc r1)]
 | _ => [.cells [.vs 6 3, .vs 4 n], .vec 3 1 [.vs 7 n, .vs 8 n, .vs 9 n], vI n (Bc r0), vI n (Bc r1), vI n (Bc r2)]
def sE (c : Cs) (r0 r1 r2 : List Rg) (p1 p2 : Int) (i : Nat) : St := { slots := slQ i c.eye, heap := [.cells (csC c), .cells [.full [], .full []], .cells (csC c), .cells (plC p1 p2), vI c.lamp.length (Bc c.lamp)] ++ hE c.lamp.length r0 r1 r2 i, marks := [] }
theorem Oj {c : Cs} (h8 : c.lamp.length ≤ 8) {r : List Rg} (hr : r.length = c.lamp.length) (H : List AB) : Ad tx.P 59 [rgs r] H (one (.c ((MkK.vs c.lamp.length).at H.length)) (H ++ [.vec c.lamp.length 1 (Bp (Bc r))])) := by
 have := lows67 r (by omega) H
 rw [hr] at this
 exact this
theorem Ok (id N0 n : Nat) (l : List Int) : (AB.vec n 1 (Bp l)).newB id N0 = true := by simp only [AB.newB, Fo, D5, Bool.and_self]
theorem aOZ {c : Cs} {l : List Int} {t : Nat} (h : fo c l = some t) : t < 3 * l.length := (I2 h).1
theorem PP (c : Cs) (l : List Int) : partP c l = (-1, -1) ∨ ∃ i b : Nat, i < 3 ∧ b < l.length ∧ partP c l = ((i : Int), (b : Int)) := by
 unfold partP
 split
 ·split
  ·exact .inl rfl
  ·rename_i t ht
   have := aOZ ht
   exact .inr ⟨t % 3, t / 3, by omega, by omega, rfl⟩
 ·exact .inl rfl
theorem fzS : ∀ {sl : List (Nat × V)}, (∀ p ∈ sl, ∀ id m x, RA id m x p.2 = p.2) → ∀ i id m x, RA id m x (Aw sl i) = Aw sl i
 | [], _, i, id, m, x => rfl
 | p :: sl, h, i, id, m, x => by
  obtain ⟨j, v⟩ := p
  simp only [Aw]
  split
  ·exact h (j, v) (by simp) id m x
  ·exact fzS (fun p hp => h p (List.mem_cons_of_mem _ hp)) i id m x
theorem Cz {l : List Rg} {n : Nat} (h : l.length = n) (f : Nat → Int) (hf : ∀ b r, l[b]? = some r → f b = r.lo) : Bc l = (List.range n).map f := by
 refine List.ext_getElem? fun j => ?_
 rw [Bc, List.getElem?_map, List.getElem?_map]
 by_cases hj : j < n
 ·obtain ⟨r, hr⟩ := AD (show j < l.length by omega)
  rw [hr, List.getElem?_range hj]
  simp [hf j r hr]
 ·rw [List.getElem?_eq_none (by omega), List.getElem?_eq_none (by simpa using Nat.le_of_not_lt hj)]; rfl
theorem Gk {l : List Rg} {n k : Nat} {v : Int} (h : l.length = n) (f : Nat → Int) (hf : ∀ b r, l[b]? = some r → b ≠ k → f b = r.lo) (hk : f k = v) : (Bc l).set k v = (List.range n).map f := by
 refine List.ext_getElem? fun j => ?_
 rw [List.getElem?_map]
 by_cases hj : j < n
 ·obtain ⟨r, hr⟩ := AD (show j < l.length by omega)
  rw [List.getElem?_range hj]
  by_cases e : k = j
  ·subst e
   rw [List.getElem?_set_self (by rw [Bc, List.length_map]; omega)]
   simp [hk]
  ·rw [List.getElem?_set_ne e, Bc, List.getElem?_map, hr]
   simp [hf j r hr (Ne.symm e)]
 ·rw [List.getElem?_eq_none (by rw [List.length_set, Bc, List.length_map]; omega), List.getElem?_eq_none (by simpa using Nat.le_of_not_lt hj)]; rfl
theorem Fq (l : List Int) (b : Nat) (x : Int) : setMany (Bp l) b [.d (.int .i64 x)] = Bp (l.set b x) := by
 simp only [setMany, Bp, List.map_set]; rfl
def hF (c : Cs) (x : Tr) (pl : Int × Int) : List AB := [.cells (csC c), .cells [.full [], .full []], .cells (csC c), .cells (plC pl.1 pl.2), .gone, .cells (trC x), .gone, .gone, .gone, .gone]
def slR : List (Nat × V) := [(6, .c (.ptr 1 0)), (12, .c (.ptr 5 0))]
def slF (b : Bool) : List (Nat × V) := [(6, .c (.ptr 1 0)), (8, .c (.ptr 2 0)), (10, .c (.ptr 3 0)), (12, .c (.ptr 5 0)), (61, B b)]
theorem frzT {X : Cx} {c : Cs} {pl : Int × Int} {bo : Bool} {l4 l7 l8 l9 : List Int} {n : Nat} (hn : n ≤ 4096) (h4 : l4.length = n) (h7 : l7.length = n) (h8 : l8.length = n) (h9 : l9.length = n) {x : Tr} (hx : x = ⟨[l7, l8, l9], l4⟩) :
  Ent X { slots := slF bo, heap := [.cells (csC c), .cells [.full [], .full []], .cells (csC c), .cells (plC pl.1 pl.2), .vec n 1 (Bp l4), .cells [.vs 6 3, .vs 4 n], .vec 3 1 [.vs 7 n, .vs 8 n, .vs 9 n], .vec n 1 (Bp l7), .vec n 1 (Bp l8), .vec n 1 (Bp l9)], marks := [] }
   {slots := slF bo, heap := hF c x pl, marks := [] } := by
 subst hx
 exact frz rfl rfl rfl rfl (fun _ _ _ => rfl) (fun _ _ _ => rfl) (fun _ _ _ => rfl) (fun _ _ _ => rfl) (fzS (by simp [slF, RA, fzN, B])) hn h4 h7 h8 h9
theorem aGO {X : Cx} {c : Cs} {pl : Int × Int} {l4 l7 l8 l9 : List Int} {n : Nat} (hn : n ≤ 4096) (h4 : l4.length = n) (h7 : l7.length = n) (h8 : l8.length = n) (h9 : l9.length = n) {x : Tr} (hx : x = ⟨[l7, l8, l9], l4⟩) :
  Ent X { slots := slR, heap := [.cells (csC c), .cells [.full [], .full []], .cells (csC c), .cells (plC pl.1 pl.2), .vec n 1 (Bp l4), .cells [.vs 6 3, .vs 4 n], .vec 3 1 [.vs 7 n, .vs 8 n, .vs 9 n], .vec n 1 (Bp l7), .vec n 1 (Bp l8), .vec n 1 (Bp l9)], marks := [] }
   {slots := slR, heap := hF c x pl, marks := [] } := by
 subst hx
 exact frz rfl rfl rfl rfl (fun _ _ _ => rfl) (fun _ _ _ => rfl) (fun _ _ _ => rfl) (fun _ _ _ => rfl) (fzS (by simp [slR, RA, fzN, B])) hn h4 h7 h8 h9
theorem DU {pl : Int × Int} {c : Cs} {i b : Nat} {row : List Rg} {r : Rg} (h : c.eye[i]? = some row) (hr : row[b]? = some r) (hne : ¬ ((i : Int) = pl.1 ∧ (b : Int) = pl.2)) : atI pl c i b = r.lo := by
 rw [atI, if_neg hne]
 have := Cs.e_at h (List.getElem?_eq_some_iff.1 hr).1
 rw [hr] at this; cases this; rfl
theorem aCn {pl : Int × Int} {c : Cs} {b : Nat} {r : Rg} (hr : c.lamp[b]? = some r) (hne : (b : Int) ≠ pl.2) : atL pl c b = r.lo := by
 rw [atL, if_neg hne]
 have := Cs.l_lt (List.getElem?_eq_some_iff.1 hr).1
 rw [hr] at this; cases this; rfl
theorem Bq (l : List Rg) : (Bc l).length = l.length := by simp [Bc]
set_option maxHeartbeats 8000000 in
theorem parting26 (c : Cs) (a b : List Int) : AF Tryz.prog 18 [csV c, ints a, ints b] (pgV c a b) := by
 refine pure_wkE (bad := [4, 11, 30011, 10013, 10015]) (kp := Fp) (X := tx) (nt := 97) (rs := [.cell 6 34, .tmp 7]) Tryz.func18 rfl rfl rfl rfl mo (by kernel_rfl) rfl rfl (fun hf => ?_)
 simp (maxSteps := 2000000) only [go_sem, reduceIte, Nat.reduceEqDiff, Nat.reduceAdd, Nat.reduceLT, Nat.reduceLeDiff, Nat.reduceBEq, Nat.reduceMul, CU, csV, csC, ints]
 refine Ac (Tm c [a, b]) rfl rfl (by first | exact wk_refls _ | (repeat constructor)) ?_
 simp (maxSteps := 2000000) only [go_sem, reduceIte, Nat.reduceEqDiff, Nat.reduceAdd, CU, csV, csC, aE8]
 by_cases h : okChips c a b = 0
 case neg =>
  have e := pgV_of (c := c) (a := a) (b := b) (x := ⟨[], []⟩) (e := okChips c a b) (by simp only [partR, if_neg h])
  simp (maxSteps := 2000000) only [go_sem, reduceIte, Nat.reduceEqDiff, Nat.reduceAdd, Nat.reduceBEq, CU, h, e, trV, trC, List.map_nil]
 obtain ⟨hc, ha, hb⟩ := (okChips_iff c a b).1 h
 obtain ⟨hsa, hna⟩ := chip_spec hc ha
 obtain ⟨hsb, hnb⟩ := chip_spec hc hb
 obtain ⟨hs, hn⟩ := MU hc ha hb
 simp (maxSteps := 2000000) only [go_sem, reduceIte, Nat.reduceEqDiff, Nat.reduceAdd, Nat.reduceBEq, CU, h, csC]
 refine de_pure (aCa a b (by omega) hsa hsb) rfl rfl (by first | exact wk_refls _ | (repeat constructor)) ?_
 simp (maxSteps := 2000000) only [go_sem, reduceIte, Nat.reduceEqDiff, Nat.reduceAdd, CU, h, csC]
 refine de_pure (aCg c (lessL a b) hc hs hn) rfl rfl (by first | exact wk_refls _ | (repeat constructor)) ?_
 simp (maxSteps := 2000000) only [go_sem, reduceIte, Nat.reduceEqDiff, Nat.reduceAdd, CU, h, K0, plC]
 refine ⟨AE (by kernel_rfl), ?_⟩
 cases hp : partB c (lessL a b) with
 | false =>
  have e := pgV_of (c := c) (a := a) (b := b) (x := ⟨[], []⟩) (e := 5) (by simp only [partR, if_pos h, hp, Bool.false_eq_true, if_false])
  simp (maxSteps := 2000000) only [go_sem, reduceIte, Nat.reduceEqDiff, Nat.reduceAdd, Nat.reduceBEq, CU, e, trV, trC, List.map_nil]
 | true =>
 have e := pgV_of (c := c) (a := a) (b := b) (x := partT c (partP c (lessL a b))) (e := 0) (by simp only [partR, if_pos h, hp, if_true])
 rw [e]
 have h8 := hc.n8
 have hl := lows67 c.lamp (by omega) (HQ c (partP c (lessL a b)).1 (partP c (lessL a b)).2)
 simp (maxSteps := 2000000) only [go_sem, Nat.reduceAdd, CU, HQ, csC, plC, List.cons_append, List.nil_append, List.length_cons, List.length_nil] at hl
 simp (maxSteps := 2000000) only [go_sem, reduceIte, Nat.reduceEqDiff, Nat.reduceAdd, Nat.reduceBEq, CU]
 refine Ar (hl) rfl rfl (by first | exact wk_refls _ | (repeat constructor)) ?_
 simp (maxSteps := 2000000) only [go_sem, reduceIte, Nat.reduceEqDiff, Nat.reduceAdd, Nat.reduceLeDiff, Nat.reduceBEq, CU]
 obtain ⟨r0, r1, r2, he⟩ := aOY hc.e3
 have hr0 : r0.length = c.lamp.length := hc.er r0 (by rw [he]; simp)
 have hr1 : r1.length = c.lamp.length := hc.er r1 (by rw [he]; simp)
 have hr2 : r2.length = c.lamp.length := hc.er r2 (by rw [he]; simp)
 have he3' : (c.eye.length : Int) = 3 := by rw [he]; rfl
 generalize hpl : partP c (lessL a b) = pl
 refine goE_loop (bad := [4, 11, 30011, 10013, 10015]) (kp := Fp) (sE c r0 r1 r2 pl.1 pl.2) (fun i => i ≤ 3) (fun i => 3 - i) 0 mo (by kernel_rfl) ?_ (Nat.zero_le _) ?_
 ·refine Ent.trans (N6 5 0 1 rfl rfl) ?_
  refine ent_weaken [] rfl rfl (Nat.zero_le _) (by simp [sE, hE, vI, AB.low, D5, csC, plC, C.lowL, C.low]) rfl ?_
  simp (maxSteps := 2000000) only [go_sem, reduceIte, Nat.reduceEqDiff, Nat.reduceAdd, Nat.reduceLT, CU, sE, slQ, D2, he3', hE, csC, plC, vI, y0]
 rintro i hi
 have hc4 : i = 0 ∨ i = 1 ∨ i = 2 ∨ i = 3 := by omega
 rcases hc4 with rfl | rfl | rfl | rfl
 ·have w1 : wr .i64 ((0 : Int) + 1) = 1 := by decide
  simp (maxSteps := 2000000) only [go_sem, reduceIte, Nat.reduceEqDiff, Nat.reduceAdd, Nat.reduceLT, Nat.reduceLeDiff, Nat.reduceBEq, Nat.reduceSub, Int.reduceLT, Int.reduceLE, Int.reduceToNat, CU, sE, slQ, hE, vI, D2, he, csC, plC, List.cons_append, List.nil_append, List.map_cons, List.map_nil, rowR, List.length_cons, List.length_nil, y0, y1, y2, y3]
  refine de_make (Oj h8 hr0) rfl rfl (by first | exact wk_refls _ | (repeat constructor)) (by rfl) (by rfl) (by rfl) ?_ (Ok _ _ _ _) ?_
  ·exact Nat.le_refl _
  simp (maxSteps := 2000000) only [go_sem, reduceIte, Nat.reduceEqDiff, Nat.reduceAdd, Nat.reduceLT, Nat.reduceLeDiff, Nat.reduceBEq, Nat.reduceMul, Nat.reduceDiv, CU, sE, slQ, hE, vI, D2, he, csC, plC, List.cons_append, List.nil_append, List.map_cons, List.map_nil, rowR, List.length_cons, List.length_nil, y0, y1, y2, y3, w1]
  refine ⟨G6 ?_ (AE (by kernel_rfl)), 1, by decide, by decide, ?_⟩
  ·simp [MV, Fo]
  refine ent_weaken [.gone] rfl rfl (Nat.zero_le _) (by simp [sE, hE, vI, AB.low, D5, csC, plC, C.lowL, C.low]) rfl ?_
  simp (maxSteps := 2000000) only [go_sem, reduceIte, Nat.reduceEqDiff, Nat.reduceAdd, Nat.reduceLT, CU, sE, slQ, hE, vI, D2, he, csC, plC, List.cons_append, List.nil_append, List.map_cons, List.map_nil, rowR, List.length_cons, List.length_nil, y0, y1, y2, y3]
  all_goals first | exact .refl _ | exact ⟨.refl _, .refl _⟩ | exact ⟨.refl _, .refl _, .refl _⟩ | exact ⟨.refl _, _, rfl⟩ | exact ⟨_, rfl⟩ | exact ⟨.refl _, [], by simp⟩ | exact ⟨[], by simp⟩
 ·have w1 : wr .i64 ((1 : Int) + 1) = 2 := by decide
  simp (maxSteps := 2000000) only [go_sem, reduceIte, Nat.reduceEqDiff, Nat.reduceAdd, Nat.reduceLT, Nat.reduceLeDiff, Nat.reduceBEq, Nat.reduceSub, Int.reduceLT, Int.reduceLE, Int.reduceToNat, CU, sE, slQ, hE, vI, D2, he, csC, plC, List.cons_append, List.nil_append, List.map_cons, List.map_nil, rowR, List.length_cons, List.length_nil, y0, y1, y2, y3]
  refine de_make (Oj h8 hr1) rfl rfl (by first | exact wk_refls _ | (repeat constructor)) (by rfl) (by rfl) (by rfl) ?_ (Ok _ _ _ _) ?_
  ·exact Nat.le_refl _
  simp (maxSteps := 2000000) only [go_sem, reduceIte, Nat.reduceEqDiff, Nat.reduceAdd, Nat.reduceLT, Nat.reduceLeDiff, Nat.reduceBEq, Nat.reduceMul, Nat.reduceDiv, CU, sE, slQ, hE, vI, D2, he, csC, plC, List.cons_append, List.nil_append, List.map_cons, List.map_nil, rowR, List.length_cons, List.length_nil, y0, y1, y2, y3, w1]
  refine ⟨G6 ?_ (AE (by kernel_rfl)), 2, by decide, by decide, ?_⟩
  ·simp [MV, Fo]
  refine ent_weaken [.gone] rfl rfl (Nat.zero_le _) (by simp [sE, hE, vI, AB.low, D5, csC, plC, C.lowL, C.low]) rfl ?_
  simp (maxSteps := 2000000) only [go_sem, reduceIte, Nat.reduceEqDiff, Nat.reduceAdd, Nat.reduceLT, CU, sE, slQ, hE, vI, D2, he, csC, plC, List.cons_append, List.nil_append, List.map_cons, List.map_nil, rowR, List.length_cons, List.length_nil, y0, y1, y2, y3]
  all_goals first | exact .refl _ | exact ⟨.refl _, .refl _⟩ | exact ⟨.refl _, .refl _, .refl _⟩ | exact ⟨.refl _, _, rfl⟩ | exact ⟨_, rfl⟩ | exact ⟨.refl _, [], by simp⟩ | exact ⟨[], by simp⟩
 ·have w1 : wr .i64 ((2 : Int) + 1) = 3 := by decide
  simp (maxSteps := 2000000) only [go_sem, reduceIte, Nat.reduceEqDiff, Nat.reduceAdd, Nat.reduceLT, Nat.reduceLeDiff, Nat.reduceBEq, Nat.reduceSub, Int.reduceLT, Int.reduceLE, Int.reduceToNat, CU, sE, slQ, hE, vI, D2, he, csC, plC, List.cons_append, List.nil_append, List.map_cons, List.map_nil, rowR, List.length_cons, List.length_nil, y0, y1, y2, y3]
  refine de_make (Oj h8 hr2) rfl rfl (by first | exact wk_refls _ | (repeat constructor)) (by rfl) (by rfl) (by rfl) ?_ (Ok _ _ _ _) ?_
  ·exact Nat.le_refl _
  simp (maxSteps := 2000000) only [go_sem, reduceIte, Nat.reduceEqDiff, Nat.reduceAdd, Nat.reduceLT, Nat.reduceLeDiff, Nat.reduceBEq, Nat.reduceMul, Nat.reduceDiv, CU, sE, slQ, hE, vI, D2, he, csC, plC, List.cons_append, List.nil_append, List.map_cons, List.map_nil, rowR, List.length_cons, List.length_nil, y0, y1, y2, y3, w1]
  refine ⟨G6 ?_ (AE (by kernel_rfl)), 3, by decide, by decide, ?_⟩
  ·simp [MV, Fo]
  refine ent_weaken [.gone] rfl rfl (Nat.zero_le _) (by simp [sE, hE, vI, AB.low, D5, csC, plC, C.lowL, C.low]) rfl ?_
  simp (maxSteps := 2000000) only [go_sem, reduceIte, Nat.reduceEqDiff, Nat.reduceAdd, Nat.reduceLT, CU, sE, slQ, hE, vI, D2, he, csC, plC, List.cons_append, List.nil_append, List.map_cons, List.map_nil, rowR, List.length_cons, List.length_nil, y0, y1, y2, y3]
  all_goals first | exact .refl _ | exact ⟨.refl _, .refl _⟩ | exact ⟨.refl _, .refl _, .refl _⟩ | exact ⟨.refl _, _, rfl⟩ | exact ⟨_, rfl⟩ | exact ⟨.refl _, [], by simp⟩ | exact ⟨[], by simp⟩
 ·simp (maxSteps := 2000000) only [go_sem, reduceIte, Nat.reduceEqDiff, Nat.reduceAdd, Nat.reduceBEq, Nat.reduceSub, Int.reduceLT, CU, sE, slQ, hE, vI, D2, he, csC, plC, List.cons_append, List.nil_append, List.map_cons, List.map_nil, rowR, List.length_cons, List.length_nil, y0, y1, y2, y3]
  rcases PP c (lessL a b) with hq | ⟨i, k, hi3, hk, hq⟩
  ·rw [hpl] at hq
   subst hq
   have e0 : partT c (-1, -1) = ⟨[Bc r0, Bc r1, Bc r2], Bc c.lamp⟩ := by
    have g0 : c.eye[0]? = some r0 := by rw [he]; rfl
    have g1 : c.eye[1]? = some r1 := by rw [he]; rfl
    have g2 : c.eye[2]? = some r2 := by rw [he]; rfl
    have k0 := Cz hr0 (atI (-1, -1) c 0) (fun b r hr => DU g0 hr (by simp))
    have k1 := Cz hr1 (atI (-1, -1) c 1) (fun b r hr => DU g1 hr (by simp))
    have k2 := Cz hr2 (atI (-1, -1) c 2) (fun b r hr => DU g2 hr (by simp))
    have k3 := Cz rfl (atL (-1, -1) c) (fun b r hr => aCn hr (by simp))
    rw [partT, k0, k1, k2, k3]; rfl
   refine stop_mk { slots := slF false, heap := hF c (partT c (-1, -1)) (-1, -1), marks := [] } ?_ ?_
   ·have hE := frzT (X := tx.cx none 0 97) (c := c) (pl := (-1, -1)) (bo := false) (by omega) (Bq c.lamp) ((Bq r0).trans hr0) ((Bq r1).trans hr1) ((Bq r2).trans hr2) e0
    simp (maxSteps := 2000000) only [go_sem, Int.reduceNeg, Int.reduceLE, CU, slF, csC, plC, he, rowR, List.map_cons, List.map_nil] at hE ⊢
    exact hE
   ·simp (maxSteps := 2000000) only [go_sem, reduceIte, Nat.reduceEqDiff, Nat.reduceAdd, Nat.reduceBEq, Int.reduceNeg, CU, slF, hF, csC, plC, trC]
    exact .refl _
  ·rw [hpl] at hq
   subst hq
   have hk' : k < c.lamp.length := by omega
   refine stop_mk _ .refl ?_
   have d0 : decide ((0 : Int) ≤ (k : Int)) = true := by simp
   have g3 := Cs.l_lt hk'
   have k3 := Gk rfl (atL ((i : Int), (k : Int)) c) (k := k) (v := (c.l k).hi) (fun b r hr hne => aCn hr (by simp; omega)) (by simp [atL])
   have hc3 : i = 0 ∨ i = 1 ∨ i = 2 := by omega
   have sb : decide (k + 1 ≤ c.lamp.length) = true := by simp; omega
   have hk2 : (k : Int) < c.lamp.length := by omega
   rcases hc3 with rfl | rfl | rfl
   ·have g0 : c.eye[0]? = some r0 := by rw [he]; rfl
    have gr := Cs.e_at g0 (b := k) (by omega)
    have hk3 : (k : Int) < r0.length := by rw [hr0]; exact hk2
    have dd : (decide ((0 : Int) < 3)) = true := by decide
    have dz : (decide ((0 : Int) ≤ 0)) = true := by decide
    have sb2 : decide (k + 1 ≤ (Bc r0).length) = true := by rw [Bq, hr0]; exact sb
    have sb3 : decide (k + 1 ≤ (Bc c.lamp).length) = true := by rw [Bq]; exact sb
    simp (maxSteps := 2000000) only [go_sem, reduceIte, Nat.reduceEqDiff, Nat.reduceAdd, Nat.reduceLT, Nat.reduceLeDiff, Nat.reduceBEq, Int.reduceLT, Int.reduceLE, Int.reduceToNat, CU, d0, g3, gr, hk2, hk3, nn, sb, hr0, rgD, IA, Fq, Nat.mul_one, sb2, sb3, y0, y1, y2, y3, List.tail_cons, vI]
    refine stop_mk { slots := slR, heap := hF c (partT c ((0 : Nat), (k : Int))) ((0 : Nat), (k : Int)), marks := [] } ?_ ?_
    ·have gg0 : c.eye[0]? = some r0 := by rw [he]; rfl
     have gg1 : c.eye[1]? = some r1 := by rw [he]; rfl
     have gg2 : c.eye[2]? = some r2 := by rw [he]; rfl
     have k0 := Gk hr0 (atI ((0 : Nat), (k : Int)) c 0) (k := k) (v := (c.e 0 k).hi) (fun b r hr hne => DU gg0 hr (by simp; omega)) (by simp [atI])
     have k1 := Cz hr1 (atI ((0 : Nat), (k : Int)) c 1) (fun b r hr => DU gg1 hr (by simp))
     have k2 := Cz hr2 (atI ((0 : Nat), (k : Int)) c 2) (fun b r hr => DU gg2 hr (by simp))
     have e0 : partT c ((0 : Nat), (k : Int)) = ⟨[((Bc r0).set k (c.e 0 k).hi), (Bc r1), (Bc r2)], (Bc c.lamp).set k (c.l k).hi⟩ := by
      rw [partT, k0, k1, k2, k3]; rfl
     have hE := aGO (X := tx.cx none 0 97) (c := c) (pl := ((0 : Nat), (k : Int))) (by omega) ((List.length_set ..).trans (Bq c.lamp)) ((List.length_set ..).trans ((Bq r0).trans hr0)) ((Bq r1).trans hr1) ((Bq r2).trans hr2) e0
     simp (maxSteps := 2000000) only [go_sem, CU, slR, csC, plC, he, rowR, List.map_cons, List.map_nil] at hE ⊢
     exact hE
    ·simp (maxSteps := 2000000) only [go_sem, reduceIte, Nat.reduceEqDiff, Nat.reduceAdd, Nat.reduceBEq, CU, slR, hF, csC, plC, trC]
     exact .refl _
   ·have g0 : c.eye[1]? = some r1 := by rw [he]; rfl
    have gr := Cs.e_at g0 (b := k) (by omega)
    have hk3 : (k : Int) < r1.length := by rw [hr1]; exact hk2
    have dd : (decide ((1 : Int) < 3)) = true := by decide
    have dz : (decide ((0 : Int) ≤ 1)) = true := by decide
    have sb2 : decide (k + 1 ≤ (Bc r1).length) = true := by rw [Bq, hr1]; exact sb
    have sb3 : decide (k + 1 ≤ (Bc c.lamp).length) = true := by rw [Bq]; exact sb
    simp (maxSteps := 2000000) only [go_sem, reduceIte, Nat.reduceEqDiff, Nat.reduceAdd, Nat.reduceLT, Nat.reduceLeDiff, Nat.reduceBEq, Int.reduceLT, Int.reduceLE, Int.reduceToNat, CU, d0, g3, gr, hk2, hk3, nn, sb, hr1, rgD, IA, Fq, Nat.mul_one, sb2, sb3, y0, y1, y2, y3, List.tail_cons, vI]
    refine stop_mk { slots := slR, heap := hF c (partT c ((1 : Nat), (k : Int))) ((1 : Nat), (k : Int)), marks := [] } ?_ ?_
    ·have gg0 : c.eye[0]? = some r0 := by rw [he]; rfl
     have gg1 : c.eye[1]? = some r1 := by rw [he]; rfl
     have gg2 : c.eye[2]? = some r2 := by rw [he]; rfl
     have k0 := Cz hr0 (atI ((1 : Nat), (k : Int)) c 0) (fun b r hr => DU gg0 hr (by simp))
     have k1 := Gk hr1 (atI ((1 : Nat), (k : Int)) c 1) (k := k) (v := (c.e 1 k).hi) (fun b r hr hne => DU gg1 hr (by simp; omega)) (by simp [atI])
     have k2 := Cz hr2 (atI ((1 : Nat), (k : Int)) c 2) (fun b r hr => DU gg2 hr (by simp))
     have e0 : partT c ((1 : Nat), (k : Int)) = ⟨[(Bc r0), ((Bc r1).set k (c.e 1 k).hi), (Bc r2)], (Bc c.lamp).set k (c.l k).hi⟩ := by
      rw [partT, k0, k1, k2, k3]; rfl
     have hE := aGO (X := tx.cx none 0 97) (c := c) (pl := ((1 : Nat), (k : Int))) (by omega) ((List.length_set ..).trans (Bq c.lamp)) ((Bq r0).trans hr0) ((List.length_set ..).trans ((Bq r1).trans hr1)) ((Bq r2).trans hr2) e0
     simp (maxSteps := 2000000) only [go_sem, CU, slR, csC, plC, he, rowR, List.map_cons, List.map_nil] at hE ⊢
     exact hE
    ·simp (maxSteps := 2000000) only [go_sem, reduceIte, Nat.reduceEqDiff, Nat.reduceAdd, Nat.reduceBEq, CU, slR, hF, csC, plC, trC]
     exact .refl _
   ·have g0 : c.eye[2]? = some r2 := by rw [he]; rfl
    have gr := Cs.e_at g0 (b := k) (by omega)
    have hk3 : (k : Int) < r2.length := by rw [hr2]; exact hk2
    have dd : (decide ((2 : Int) < 3)) = true := by decide
    have dz : (decide ((0 : Int) ≤ 2)) = true := by decide
    have sb2 : decide (k + 1 ≤ (Bc r2).length) = true := by rw [Bq, hr2]; exact sb
    have sb3 : decide (k + 1 ≤ (Bc c.lamp).length) = true := by rw [Bq]; exact sb
    simp (maxSteps := 2000000) only [go_sem, reduceIte, Nat.reduceEqDiff, Nat.reduceAdd, Nat.reduceLT, Nat.reduceLeDiff, Nat.reduceBEq, Int.reduceLT, Int.reduceLE, Int.reduceToNat, CU, d0, g3, gr, hk2, hk3, nn, sb, hr2, rgD, IA, Fq, Nat.mul_one, sb2, sb3, y0, y1, y2, y3, List.tail_cons, vI]
    refine stop_mk { slots := slR, heap := hF c (partT c ((2 : Nat), (k : Int))) ((2 : Nat), (k : Int)), marks := [] } ?_ ?_
    ·have gg0 : c.eye[0]? = some r0 := by rw [he]; rfl
     have gg1 : c.eye[1]? = some r1 := by rw [he]; rfl
     have gg2 : c.eye[2]? = some r2 := by rw [he]; rfl
     have k0 := Cz hr0 (atI ((2 : Nat), (k : Int)) c 0) (fun b r hr => DU gg0 hr (by simp))
     have k1 := Cz hr1 (atI ((2 : Nat), (k : Int)) c 1) (fun b r hr => DU gg1 hr (by simp))
     have k2 := Gk hr2 (atI ((2 : Nat), (k : Int)) c 2) (k := k) (v := (c.e 2 k).hi) (fun b r hr hne => DU gg2 hr (by simp; omega)) (by simp [atI])
     have e0 : partT c ((2 : Nat), (k : Int)) = ⟨[(Bc r0), (Bc r1), ((Bc r2).set k (c.e 2 k).hi)], (Bc c.lamp).set k (c.l k).hi⟩ := by
      rw [partT, k0, k1, k2, k3]; rfl
     have hE := aGO (X := tx.cx none 0 97) (c := c) (pl := ((2 : Nat), (k : Int))) (by omega) ((List.length_set ..).trans (Bq c.lamp)) ((Bq r0).trans hr0) ((Bq r1).trans hr1) ((List.length_set ..).trans ((Bq r2).trans hr2)) e0
     simp (maxSteps := 2000000) only [go_sem, CU, slR, csC, plC, he, rowR, List.map_cons, List.map_nil] at hE ⊢
     exact hE
    ·simp (maxSteps := 2000000) only [go_sem, reduceIte, Nat.reduceEqDiff, Nat.reduceAdd, Nat.reduceBEq, CU, slR, hF, csC, plC, trC]
     exact .refl _
end Go.Proofs.YtfgdbeijjbijnaaGreatDoor.Me
set_option linter.unusedSimpArgs false
set_option linter.unusedVariables false
set_option maxRecDepth 100000
namespace Go.Proofs.YtfgdbeijjbijnaaGreatDoor.Me
open Go Go.Abs Go.Proofs
theorem D6 {f g : Nat → Int} : ∀ {n : Nat}, (∀ b, b < n → f b ≤ g b) → CN f n ≤ CN g n
 | 0, _ => Int.le_refl _
 | n + 1, h => by
  have ih := D6 (f := f) (g := g) (n := n) (fun b hb => h b (by omega))
  have := h n (by omega)
  simp only [CN]; omega
theorem MW {f g : Nat → Int} : ∀ {n : Nat}, (∀ b, b < n → f b ≤ g b) → CN f n = CN g n → ∀ b, b < n → f b = g b
 | 0, _, _, b, hb => by omega
 | n + 1, h, e, b, hb => by
  have h1 := D6 (f := f) (g := g) (n := n) (fun b hb => h b (by omega))
  have h2 := h n (by omega)
  simp only [CN] at e
  by_cases e2 : b = n
  ·subst e2; omega
  ·exact MW (n := n) (fun b hb => h b (by omega)) (by omega) b (by omega)
theorem PQ (f g : Nat → Int) : ∀ n : Nat, CN (fun b => f b - g b) n = CN f n - CN g n
 | 0 => rfl
 | n + 1 => by have := PQ f g n; simp only [CN] at this ⊢; omega
theorem mm {a p b y : Int} (h1 : a ≤ p) (h2 : p ≤ b) : min (a * y) (b * y) ≤ y * p ∧ y * p ≤ max (a * y) (b * y) := by
 rw [Int.mul_comm a, Int.mul_comm b]
 by_cases hy : 0 ≤ y
 ·have e1 := Int.mul_le_mul_of_nonneg_left h1 hy
  have e2 := Int.mul_le_mul_of_nonneg_left h2 hy
  omega
 ·have e1 := Int.mul_le_mul_of_nonpos_left (show y ≤ 0 by omega) h1
  have e2 := Int.mul_le_mul_of_nonpos_left (show y ≤ 0 by omega) h2
  omega
theorem aO0 {a b y : Int} (h : a ≤ b) (e : min (a * y) (b * y) = max (a * y) (b * y)) : y = 0 ∨ a = b := by
 have e2 : a * y = b * y := by omega
 by_cases hy : y = 0
 ·exact .inl hy
 ·exact .inr (Int.eq_of_mul_eq_mul_right hy e2)
section
variable {c : Cs} {x : Tr} {l : List Int}
theorem OkT.between (hc : OkC c) (h : OkT c x) {i b : Nat} (hi : i < 3) (hb : b < c.lamp.length) : pL c i b ≤ pX x i b ∧ pX x i b ≤ pH c i b := by
 have h1 := hc.be i b
 have h2 := hc.bl b
 have h3 := h.be i b hi hb
 have h4 := h.bl b hb
 exact ⟨Int.mul_le_mul (by omega) (by omega) (by omega) (by omega), Int.mul_le_mul (by omega) (by omega) (by omega) (by omega)⟩
theorem boxed (hc : OkC c) (h : OkT c x) (hn : l.length ≤ c.lamp.length) {k : Nat} (hk : k < 3) : FV c l k l.length ≤ B2 (pX x) l k ∧ B2 (pX x) l k ≤ FW c l k l.length := by
 have key : ∀ b, b < l.length → min (pL c k b * gI l b) (pH c k b * gI l b) ≤ gI l b * pX x k b ∧ gI l b * pX x k b ≤ max (pL c k b * gI l b) (pH c k b * gI l b) := fun b hb => by
  have := OkT.between hc h hk (show b < c.lamp.length by omega)
  exact mm this.1 this.2
 exact ⟨D6 (fun b hb => (key b hb).1), D6 (fun b hb => (key b hb).2)⟩
theorem aCo {p : Nat → Nat → Int} {a b : List Int} (h : b.length = a.length) (k : Nat) : B2 p (lessL a b) k = B2 p a k - B2 p b k := by
 unfold B2 Ej
 rw [lessL_len, h, ← PQ]
 exact DA fun j hj => by rw [aEr hj, Int.sub_mul]
theorem aGP (c : Cs) (l : List Int) : (spansL c l).all zRg = true ↔ ∀ k, k < 3 → FV c l k l.length = 0 ∧ FW c l k l.length = 0 := by
 simp only [spansL, List.all_cons, List.all_nil, zRg, Bool.and_true, Bool.and_eq_true, decide_eq_true_eq]
 constructor
 ·rintro ⟨h0, h1, h2⟩ k hk
  have : k = 0 ∨ k = 1 ∨ k = 2 := by omega
  rcases this with rfl | rfl | rfl
  ·exact h0
  ·exact h1
  ·exact h2
 ·intro h
  exact ⟨h 0 (by decide), h 1 (by decide), h 2 (by decide)⟩
theorem PR (c : Cs) (l : List Int) : PO c l = true ↔ ∀ k, k < 3 → B2 (pL c) l k = 0 := by
 simp only [PO, Bool.and_eq_true, decide_eq_true_eq]
 constructor
 ·rintro ⟨h0, h1, h2⟩ k hk
  have : k = 0 ∨ k = 1 ∨ k = 2 := by omega
  rcases this with rfl | rfl | rfl
  ·exact h0
  ·exact h1
  ·exact h2
 ·intro h
  exact ⟨h 0 (by decide), h 1 (by decide), h 2 (by decide)⟩
theorem aCp (hc : OkC c) : partB c l = !(spansL c l).all zRg := by
 have hLH := hc.okLH
 cases hz : (spansL c l).all zRg with
 | true =>
  have h := (aGP c l).1 hz
  have hm : ∀ k b, b < l.length → min (pL c k b * gI l b) (pH c k b * gI l b) ≤ max (pL c k b * gI l b) (pH c k b * gI l b) := fun k b _ => by omega
  have hp : ∀ k b, b < l.length → min (pL c k b * gI l b) (pH c k b * gI l b) ≤ gI l b * pL c k b ∧ gI l b * pL c k b ≤ max (pL c k b * gI l b) (pH c k b * gI l b) := fun k b _ => mm (Int.le_refl _) (hLH k b)
  have h1 : PO c l = true := (PR c l).2 fun k hk => by
   obtain ⟨e1, e2⟩ := h k hk
   have g1 := D6 (f := fun b => min (pL c k b * gI l b) (pH c k b * gI l b)) (g := fun b => gI l b * pL c k b) (n := l.length) (fun b hb => (hp k b hb).1)
   have g2 := D6 (f := fun b => gI l b * pL c k b) (g := fun b => max (pL c k b * gI l b) (pH c k b * gI l b)) (n := l.length) (fun b hb => (hp k b hb).2)
   have e1 : CN (fun b => min (pL c k b * gI l b) (pH c k b * gI l b)) l.length = 0 := e1
   have e2 : CN (fun b => max (pL c k b * gI l b) (pH c k b * gI l b)) l.length = 0 := e2
   show CN (fun b => gI l b * pL c k b) l.length = 0
   omega
  have h2 : fo c l = none := Ex fun t ht => by
   have hk : t % 3 < 3 := Nat.mod_lt _ (by decide)
   obtain ⟨e1, e2⟩ := h (t % 3) hk
   have e1 : CN (fun b => min (pL c (t % 3) b * gI l b) (pH c (t % 3) b * gI l b)) l.length = 0 := e1
   have e2 : CN (fun b => max (pL c (t % 3) b * gI l b) (pH c (t % 3) b * gI l b)) l.length = 0 := e2
   have := MW (n := l.length) (fun b hb => hm (t % 3) b hb) (e1.trans e2.symm) (t / 3) (by omega)
   rcases aO0 (hLH _ _) this with h | h
   ·simp [opn, h]
   ·simp [opn, h]
  rw [partB, h1, h2]; rfl
 | false =>
  cases hz2 : PO c l with
  | false => rw [partB, hz2]; rfl
  | true =>
   cases hf : fo c l with
   | some t => rw [partB, hf]; simp
   | none =>
    exfalso
    rw [← Bool.not_eq_true, aGP] at hz
    refine hz fun k hk => ?_
    have h1 := (PR c l).1 hz2 k hk
    have h1 : CN (fun b => gI l b * pL c k b) l.length = 0 := h1
    have key : ∀ b, b < l.length → pL c k b * gI l b = pH c k b * gI l b := fun b hb => by
     have ho := KZ hf (3 * b + k) (by omega)
     rw [Oi c l hk] at ho
     simp only [Bool.and_eq_false_iff, decide_eq_false_iff_not, Classical.not_not] at ho
     rcases ho with ho | ho
     ·rw [ho]; simp
     ·rw [ho]
    constructor
    ·show CN _ _ = 0
     rw [← h1]
     exact DA fun b hb => by have := key b hb; rw [Int.mul_comm (gI l b)]; omega
    ·show CN _ _ = 0
     rw [← h1]
     exact DA fun b hb => by have := key b hb; rw [Int.mul_comm (gI l b)]; omega
def mkT (n : Nat) (e : Nat → Nat → Int) (f : Nat → Int) : Tr := ⟨(List.range 3).map (fun i => (List.range n).map (e i)), (List.range n).map f⟩
theorem aO1 {n : Nat} {e : Nat → Nat → Int} {f : Nat → Int} {b : Nat} (hb : b < n) : (mkT n e f).l b = f b := Iw (by simp [mkT, hb])
theorem aO2 {n : Nat} {e : Nat → Nat → Int} {f : Nat → Int} {i b : Nat} (hi : i < 3) (hb : b < n) : (mkT n e f).e i b = e i b := by
 have h1 : (mkT n e f).eye[i]? = some ((List.range n).map (e i)) := by simp [mkT, hi]
 rw [Tr.e, Fh h1]
 exact Iw (by simp [hb])
theorem aCq {e : Nat → Nat → Int} {f : Nat → Int} (he : ∀ i b, i < 3 → b < c.lamp.length → (c.e i b).lo ≤ e i b ∧ e i b ≤ (c.e i b).hi) (hf : ∀ b, b < c.lamp.length → (c.l b).lo ≤ f b ∧ f b ≤ (c.l b).hi) : OkT c (mkT c.lamp.length e f) where
 ln := by simp [mkT]
 e3 := by simp [mkT]
 er := fun r hr => by
  simp only [mkT, List.mem_map] at hr
  obtain ⟨i, _, rfl⟩ := hr
  simp
 bl := fun b hb => by rw [aO1 hb]; exact hf b hb
 be := fun i b hi hb => by rw [aO2 hi hb]; exact he i b hi hb
theorem aCr (c : Cs) (pl : Int × Int) : partT c pl = mkT c.lamp.length (atI pl c) (atL pl c) := rfl
def aGQ (c : Cs) (by' : List Int) (b : Nat) : Int := Fx (c.l b) by' b
theorem aCs (c : Cs) (by' : List Int) : trueT c by' = mkT c.lamp.length (aCj c by') (aGQ c by') := rfl
theorem partT_ok (hc : OkC c) (pl : Int × Int) : OkT c (partT c pl) := by
 rw [aCr]
 refine aCq (fun i b _ _ => ?_) (fun b _ => ?_)
 ·have := hc.be i b
  unfold atI
  split <;> omega
 ·have := hc.bl b
  unfold atL
  split <;> omega
theorem trueT_ok (hc : OkC c) (by' : List Int) : OkT c (trueT c by') := by
 rw [aCs]
 refine aCq (fun i b _ _ => ?_) (fun b _ => ?_)
 ·exact K1 (hc.be i b).2.1 by' _
 ·exact K1 (hc.bl b).2.1 by' _
theorem sure_none (hc : OkC c) (hn : l.length = c.lamp.length) (h : partB c l = false) (hx : OkT c x) : ∀ k, k < 3 → B2 (pX x) l k = 0 := fun k hk => by
 rw [aCp hc] at h
 have hz := (aGP c l).1 (by simpa using h) k hk
 have := boxed hc hx (Nat.le_of_eq hn) hk
 omega
theorem seeL_eq {p : Nat → Nat → Int} {a b : List Int} (h : b.length = a.length) : seeL p a = seeL p b ↔ ∀ k, k < 3 → B2 p (lessL a b) k = 0 := by
 simp only [aCo h]
 unfold seeL
 constructor
 ·intro he k hk
  have : k = 0 ∨ k = 1 ∨ k = 2 := by omega
  simp at he
  rcases this with rfl | rfl | rfl <;> omega
 ·intro he
  have h0 := he 0 (by decide)
  have h1 := he 1 (by decide)
  have h2 := he 2 (by decide)
  simp
  omega
end
end Go.Proofs.YtfgdbeijjbijnaaGreatDoor.Me
