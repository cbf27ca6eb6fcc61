/- Metamers: the law of boxes. -/
import Derived.Test.YtjkpfojkkfopmaaM19
import Derived.Test.YtjkpfojkkfopmaaM29
import Derived.Test.YtjkpfojkkfopmaaM30
set_option linter.unusedSimpArgs false
set_option linter.unusedVariables false
set_option maxRecDepth 100000
namespace Go.Proofs.Ytjkpfojkkfopmaa
open Go Go.Abs Go.Proofs
def kp8 : List (Nat × List Nat) := [(0, [1, 2, 3, 4, 5]), (1, [1, 2, 3, 4, 5, 38]), (2, [10]), (3, [1, 2, 4, 5, 11]), (4, [1, 2, 4, 5, 11, 12, 13]), (5, [1, 2, 4, 5, 12, 13, 14, 15]), (6, [1, 2, 4, 5, 12, 13, 14, 15, 16, 17]), (7, [1, 2, 4, 5, 12, 13, 14, 15, 16, 17, 18, 19]), (8, [1, 2, 4, 5, 12, 14, 16, 18, 103]), (9, [10]), (10, [1, 2, 4, 5, 12, 14, 16, 18, 20]), (11, [1, 2, 4, 5, 12, 14, 16, 18, 20, 105]), (12, [1, 2, 4, 5, 12, 14, 16, 18, 20]), (13, [1, 2, 4, 5, 12, 14, 16, 18, 20, 163]), (14, [10]), (15, [1, 2, 5, 18, 21]), (16, [1, 2, 5, 18, 21, 22, 23]), (17, [1, 2, 5, 18, 21, 22, 23, 24]), (18, [1, 2, 5, 18, 21, 22, 23, 24, 174]), (19, [1, 2, 5, 18, 21, 22, 23, 24]), (20, [1, 2, 5, 18, 21, 22, 23, 24, 185]), (21, [1, 2, 5, 18, 21, 22, 23, 24]), (22, [1, 2, 5, 18, 21, 22, 23, 24]), (23, [1, 2, 5, 13, 18, 21, 22, 23, 25]), (24, [1, 2, 5, 13, 15, 18, 21, 23, 25, 26]), (25, [2, 5, 13, 15, 17, 18, 21, 23, 25, 26, 27]), (26, [13, 15, 17, 18, 19, 21, 25, 26, 27, 28]), (27, [10])]
theorem lk8 : lookK kp8 0 = some [1, 2, 3, 4, 5] ∧ lookK kp8 1 = some [1, 2, 3, 4, 5, 38] ∧ lookK kp8 2 = some [10] ∧ lookK kp8 3 = some [1, 2, 4, 5, 11] ∧ lookK kp8 4 = some [1, 2, 4, 5, 11, 12, 13] ∧ lookK kp8 5 = some [1, 2, 4, 5, 12, 13, 14, 15] ∧ lookK kp8 6 = some [1, 2, 4, 5, 12, 13, 14, 15, 16, 17] ∧ lookK kp8 7 = some [1, 2, 4, 5, 12, 13, 14, 15, 16, 17, 18, 19] ∧ lookK kp8 8 = some [1, 2, 4, 5, 12, 14, 16, 18, 103] ∧ lookK kp8 9 = some [10] ∧ lookK kp8 10 = some [1, 2, 4, 5, 12, 14, 16, 18, 20] ∧ lookK kp8 11 = some [1, 2, 4, 5, 12, 14, 16, 18, 20, 105] ∧ lookK kp8 12 = some [1, 2, 4, 5, 12, 14, 16, 18, 20] ∧ lookK kp8 13 = some [1, 2, 4, 5, 12, 14, 16, 18, 20, 163] ∧ lookK kp8 14 = some [10] ∧ lookK kp8 15 = some [1, 2, 5, 18, 21] ∧ lookK kp8 16 = some [1, 2, 5, 18, 21, 22, 23] ∧ lookK kp8 17 = some [1, 2, 5, 18, 21, 22, 23, 24] ∧ lookK kp8 18 = some [1, 2, 5, 18, 21, 22, 23, 24, 174] ∧ lookK kp8 19 = some [1, 2, 5, 18, 21, 22, 23, 24] ∧ lookK kp8 20 = some [1, 2, 5, 18, 21, 22, 23, 24, 185] ∧ lookK kp8 21 = some [1, 2, 5, 18, 21, 22, 23, 24] ∧ lookK kp8 22 = some [1, 2, 5, 18, 21, 22, 23, 24] ∧ lookK kp8 23 = some [1, 2, 5, 13, 18, 21, 22, 23, 25] ∧ lookK kp8 24 = some [1, 2, 5, 13, 15, 18, 21, 23, 25, 26] ∧ lookK kp8 25 = some [2, 5, 13, 15, 17, 18, 21, 23, 25, 26, 27] ∧ lookK kp8 26 = some [13, 15, 17, 18, 19, 21, 25, 26, 27, 28] ∧ lookK kp8 27 = some [10] := ⟨rfl, rfl, rfl, rfl, rfl, rfl, rfl, rfl, rfl, rfl, rfl, rfl, rfl, rfl, rfl, rfl, rfl, rfl, rfl, rfl, rfl, rfl, rfl, rfl, rfl, rfl, rfl, rfl⟩

theorem fineB_iff {c : Cs} {a b : List Int} (h : fineB c a b = true) : okChips c a b = 0 := by
  simp only [fineB, Bool.and_eq_true, decide_eq_true_eq] at h
  exact h.2.2.2
theorem intsC_shift (d : Nat) (l : List Int) : (intsC l).map (C.shift d) = intsC l := by
  simp only [intsC, List.map_map]; exact List.map_congr_left fun a _ => rfl
theorem intsC_shB (m : Nat) (l : List Int) : (intsC l).all (C.shB m) = true := by simp [intsC, iC, C.shB]
theorem intsC_filter (l : List Int) : (intsC l).filter C.idB = [] := by simp [intsC, iC, C.idB]
theorem tvB_shB (c : Cs) (n : Nat) (l r0 r1 r2 : List Int) : (tvB c n l r0 r1 r2).all (AB.shB 8) = true := by simp [tvB, vI, AB.shB, intsC_shB, C.shB, csC]
theorem true_at {c : Cs} (hc : OkC c) (H : List AB) : ACall tx.P 43 [csV c, u16s []] H (one ((tvX c.lamp.length).shift H.length) (H ++ (tvB c c.lamp.length (selL c.lamp.length (fun _ => false) c.l) (selL c.lamp.length (fun _ => false) (c.e 0)) (selL c.lamp.length (fun _ => false) (c.e 1)) (selL c.lamp.length (fun _ => false) (c.e 2))).map (AB.shift H.length))) := by
  have h := true43v c [] hc (fun n hn => by cases hn)
  rw [low_true, low_trueN, low_trueN, low_trueN] at h
  exact ACall.lift0 h rfl rfl (tvB_shB _ _ _ _ _ _) H
theorem tvX_sh (d n : Nat) : (tvX n).shift d = .agg [.vs (d + 4) 3, .vs (d + 3) n] := rfl
theorem tvB_sh (c : Cs) (d n : Nat) (l r0 r1 r2 : List Int) : (tvB c n l r0 r1 r2).map (AB.shift d) = [.cells (csC c), .cells [.vs (d + 4) 3, .vs (d + 3) n], .cells [.vs (d + 4) 3, .vs (d + 3) n], .vec n 1 (intsC l), .vec 3 1 [.vs (d + 5) n, .vs (d + 6) n, .vs (d + 7) n], .vec n 1 (intsC r0), .vec n 1 (intsC r1), .vec n 1 (intsC r2)] := by
  simp [tvB, vI, AB.shift, C.shift, intsC_shift, csC]
/-- The blocks in the loop. -/
def hbk (c : Cs) (x : Tr) (L E0 E1 E2 L' F0 F1 F2 : List Int) : List AB := [.cells (csC c), .cells (trC x), .cells (csC c), .cells [.vs 6 3, .vs 5 c.lamp.length], .cells [.vs 6 3, .vs 5 c.lamp.length], vI c.lamp.length L, .vec 3 1 [.vs 7 c.lamp.length, .vs 8 c.lamp.length, .vs 9 c.lamp.length], vI c.lamp.length E0, vI c.lamp.length E1, vI c.lamp.length E2,
  .cells (csC c), .cells [.vs 14 3, .vs 13 c.lamp.length], .cells [.vs 14 3, .vs 13 c.lamp.length], vI c.lamp.length L', .vec 3 1 [.vs 15 c.lamp.length, .vs 16 c.lamp.length, .vs 17 c.lamp.length], vI c.lamp.length F0, vI c.lamp.length F1, vI c.lamp.length F2, .cells [.vs 6 3, .vs 5 c.lamp.length], .cells [.vs 14 3, .vs 13 c.lamp.length]]
theorem frz2 {X : Cx} {n : Nat} {l5 l7 l8 l9 m5 m7 m8 m9 : List Int} {sl : List (Nat × V)} {c0 c1 : List C} (f0 : ∀ id m x, c0.map (fzN id m x) = c0) (f1 : ∀ id m x, c1.map (fzN id m x) = c1)
    (hsl : ∀ i id m x, fzNV id m x (getS sl i) = getS sl i) (hn : n ≤ 4096) (h_l5 : l5.length = n) (h_l7 : l7.length = n) (h_l8 : l8.length = n) (h_l9 : l9.length = n) (h_m5 : m5.length = n) (h_m7 : m7.length = n) (h_m8 : m8.length = n) (h_m9 : m9.length = n) :
    Ent X { slots := sl, heap := [.cells c0, .cells c1, .gone, .gone, .gone, vI n l5, .vec 3 1 [.vs 7 n, .vs 8 n, .vs 9 n], vI n l7, vI n l8, vI n l9, .gone, .gone, .gone, vI n m5, .vec 3 1 [.vs 15 n, .vs 16 n, .vs 17 n], vI n m7, vI n m8, vI n m9, .cells [.vs 6 3, .vs 5 n], .cells [.vs 14 3, .vs 13 n]], marks := [] }
      { slots := sl, heap := [.cells c0, .cells c1, .gone, .gone, .gone, .gone, .gone, .gone, .gone, .gone, .gone, .gone, .gone, .gone, .gone, .gone, .gone, .gone, .cells [.d (.sl [[dI l7], [dI l8], [dI l9]]), .d (dI l5)], .cells [.d (.sl [[dI m7], [dI m8], [dI m9]]), .d (dI m5)]], marks := [] } := by
  have fI : ∀ id m x (l : List Int), (intsC l).map (fzN id m x) = intsC l := fun id m x l => by
    simp only [intsC, List.map_map]; exact List.map_congr_left fun a _ => rfl
  have e_l5 := chunk_ints' h_l5
  have e_l7 := chunk_ints' h_l7
  have e_l8 := chunk_ints' h_l8
  have e_l9 := chunk_ints' h_l9
  have e_m5 := chunk_ints' h_m5
  have e_m7 := chunk_ints' h_m7
  have e_m8 := chunk_ints' h_m8
  have e_m9 := chunk_ints' h_m9
  have hl : n ≤ lim := by unfold lim; omega
  refine Ent.trans (ent_fzvec (s' := { slots := sl, heap := [.cells c0, .cells c1, .gone, .gone, .gone, vI n l5, .vec 3 1 [.d (dI l7), .vs 8 n, .vs 9 n], .gone, vI n l8, vI n l9, .gone, .gone, .gone, vI n m5, .vec 3 1 [.vs 15 n, .vs 16 n, .vs 17 n], vI n m7, vI n m8, vI n m9, .cells [.vs 6 3, .vs 5 n], .cells [.vs 14 3, .vs 13 n]], marks := [] }) 7 (n := n) (sz := 1) (cs := intsC l7) rfl (toDs_ints l7) (by decide) hl rfl ?_ (fun i => .inl (hsl i _ _ _).symm)) ?_
  · rw [e_l7]; simp [fzNB, fzN, f0, f1, vI, fI]
  refine Ent.trans (ent_fzvec (s' := { slots := sl, heap := [.cells c0, .cells c1, .gone, .gone, .gone, vI n l5, .vec 3 1 [.d (dI l7), .d (dI l8), .vs 9 n], .gone, .gone, vI n l9, .gone, .gone, .gone, vI n m5, .vec 3 1 [.vs 15 n, .vs 16 n, .vs 17 n], vI n m7, vI n m8, vI n m9, .cells [.vs 6 3, .vs 5 n], .cells [.vs 14 3, .vs 13 n]], marks := [] }) 8 (n := n) (sz := 1) (cs := intsC l8) rfl (toDs_ints l8) (by decide) hl rfl ?_ (fun i => .inl (hsl i _ _ _).symm)) ?_
  · rw [e_l8]; simp [fzNB, fzN, f0, f1, vI, fI]
  refine Ent.trans (ent_fzvec (s' := { slots := sl, heap := [.cells c0, .cells c1, .gone, .gone, .gone, vI n l5, .vec 3 1 [.d (dI l7), .d (dI l8), .d (dI l9)], .gone, .gone, .gone, .gone, .gone, .gone, vI n m5, .vec 3 1 [.vs 15 n, .vs 16 n, .vs 17 n], vI n m7, vI n m8, vI n m9, .cells [.vs 6 3, .vs 5 n], .cells [.vs 14 3, .vs 13 n]], marks := [] }) 9 (n := n) (sz := 1) (cs := intsC l9) rfl (toDs_ints l9) (by decide) hl rfl ?_ (fun i => .inl (hsl i _ _ _).symm)) ?_
  · rw [e_l9]; simp [fzNB, fzN, f0, f1, vI, fI]
  refine Ent.trans (ent_fzvec (s' := { slots := sl, heap := [.cells c0, .cells c1, .gone, .gone, .gone, vI n l5, .gone, .gone, .gone, .gone, .gone, .gone, .gone, vI n m5, .vec 3 1 [.vs 15 n, .vs 16 n, .vs 17 n], vI n m7, vI n m8, vI n m9, .cells [.d (.sl [[dI l7], [dI l8], [dI l9]]), .vs 5 n], .cells [.vs 14 3, .vs 13 n]], marks := [] }) 6 (n := 3) (sz := 1) (cs := [.d (dI l7), .d (dI l8), .d (dI l9)]) (ds := [(dI l7), (dI l8), (dI l9)]) rfl rfl (by decide) (by unfold lim; omega) rfl ?_ (fun i => .inl (hsl i _ _ _).symm)) ?_
  · simp [fzNB, fzN, f0, f1, vI, fI, chunk]
  refine Ent.trans (ent_fzvec (s' := { slots := sl, heap := [.cells c0, .cells c1, .gone, .gone, .gone, .gone, .gone, .gone, .gone, .gone, .gone, .gone, .gone, vI n m5, .vec 3 1 [.vs 15 n, .vs 16 n, .vs 17 n], vI n m7, vI n m8, vI n m9, .cells [.d (.sl [[dI l7], [dI l8], [dI l9]]), .d (dI l5)], .cells [.vs 14 3, .vs 13 n]], marks := [] }) 5 (n := n) (sz := 1) (cs := intsC l5) rfl (toDs_ints l5) (by decide) hl rfl ?_ (fun i => .inl (hsl i _ _ _).symm)) ?_
  · rw [e_l5]; simp [fzNB, fzN, f0, f1, vI, fI]
  refine Ent.trans (ent_fzvec (s' := { slots := sl, heap := [.cells c0, .cells c1, .gone, .gone, .gone, .gone, .gone, .gone, .gone, .gone, .gone, .gone, .gone, vI n m5, .vec 3 1 [.d (dI m7), .vs 16 n, .vs 17 n], .gone, vI n m8, vI n m9, .cells [.d (.sl [[dI l7], [dI l8], [dI l9]]), .d (dI l5)], .cells [.vs 14 3, .vs 13 n]], marks := [] }) 15 (n := n) (sz := 1) (cs := intsC m7) rfl (toDs_ints m7) (by decide) hl rfl ?_ (fun i => .inl (hsl i _ _ _).symm)) ?_
  · rw [e_m7]; simp [fzNB, fzN, f0, f1, vI, fI]
  refine Ent.trans (ent_fzvec (s' := { slots := sl, heap := [.cells c0, .cells c1, .gone, .gone, .gone, .gone, .gone, .gone, .gone, .gone, .gone, .gone, .gone, vI n m5, .vec 3 1 [.d (dI m7), .d (dI m8), .vs 17 n], .gone, .gone, vI n m9, .cells [.d (.sl [[dI l7], [dI l8], [dI l9]]), .d (dI l5)], .cells [.vs 14 3, .vs 13 n]], marks := [] }) 16 (n := n) (sz := 1) (cs := intsC m8) rfl (toDs_ints m8) (by decide) hl rfl ?_ (fun i => .inl (hsl i _ _ _).symm)) ?_
  · rw [e_m8]; simp [fzNB, fzN, f0, f1, vI, fI]
  refine Ent.trans (ent_fzvec (s' := { slots := sl, heap := [.cells c0, .cells c1, .gone, .gone, .gone, .gone, .gone, .gone, .gone, .gone, .gone, .gone, .gone, vI n m5, .vec 3 1 [.d (dI m7), .d (dI m8), .d (dI m9)], .gone, .gone, .gone, .cells [.d (.sl [[dI l7], [dI l8], [dI l9]]), .d (dI l5)], .cells [.vs 14 3, .vs 13 n]], marks := [] }) 17 (n := n) (sz := 1) (cs := intsC m9) rfl (toDs_ints m9) (by decide) hl rfl ?_ (fun i => .inl (hsl i _ _ _).symm)) ?_
  · rw [e_m9]; simp [fzNB, fzN, f0, f1, vI, fI]
  refine Ent.trans (ent_fzvec (s' := { slots := sl, heap := [.cells c0, .cells c1, .gone, .gone, .gone, .gone, .gone, .gone, .gone, .gone, .gone, .gone, .gone, vI n m5, .gone, .gone, .gone, .gone, .cells [.d (.sl [[dI l7], [dI l8], [dI l9]]), .d (dI l5)], .cells [.d (.sl [[dI m7], [dI m8], [dI m9]]), .vs 13 n]], marks := [] }) 14 (n := 3) (sz := 1) (cs := [.d (dI m7), .d (dI m8), .d (dI m9)]) (ds := [(dI m7), (dI m8), (dI m9)]) rfl rfl (by decide) (by unfold lim; omega) rfl ?_ (fun i => .inl (hsl i _ _ _).symm)) ?_
  · simp [fzNB, fzN, f0, f1, vI, fI, chunk]
  refine Ent.trans (ent_fzvec (s' := { slots := sl, heap := [.cells c0, .cells c1, .gone, .gone, .gone, .gone, .gone, .gone, .gone, .gone, .gone, .gone, .gone, .gone, .gone, .gone, .gone, .gone, .cells [.d (.sl [[dI l7], [dI l8], [dI l9]]), .d (dI l5)], .cells [.d (.sl [[dI m7], [dI m8], [dI m9]]), .d (dI m5)]], marks := [] }) 13 (n := n) (sz := 1) (cs := intsC m5) rfl (toDs_ints m5) (by decide) hl rfl ?_ (fun i => .inl (hsl i _ _ _).symm)) ?_
  · rw [e_m5]; simp [fzNB, fzN, f0, f1, vI, fI]
  exact .refl
/-- The blocks behind the loop. -/
def hz (c : Cs) (x lo hi : Tr) : List AB := [.cells (csC c), .cells (trC x), .gone, .gone, .gone, .gone, .gone, .gone, .gone, .gone, .gone, .gone, .gone, .gone, .gone, .gone, .gone, .gone, .cells (trC lo), .cells (trC hi)]
theorem endT_0 (c : Cs) (p : Nat → Bool) : endT c 0 p = ⟨[selL c.lamp.length p (c.e 0), selL c.lamp.length (fun _ => false) (c.e 1), selL c.lamp.length (fun _ => false) (c.e 2)], selL c.lamp.length p c.l⟩ := by rw [endT_at]; simp
theorem endT_1 (c : Cs) (p : Nat → Bool) : endT c 1 p = ⟨[selL c.lamp.length (fun _ => false) (c.e 0), selL c.lamp.length p (c.e 1), selL c.lamp.length (fun _ => false) (c.e 2)], selL c.lamp.length p c.l⟩ := by rw [endT_at]; simp
theorem endT_2 (c : Cs) (p : Nat → Bool) : endT c 2 p = ⟨[selL c.lamp.length (fun _ => false) (c.e 0), selL c.lamp.length (fun _ => false) (c.e 1), selL c.lamp.length p (c.e 2)], selL c.lamp.length p c.l⟩ := by rw [endT_at]; simp
theorem seeL_at (p : Nat → Nat → Int) (l : List Int) {i : Nat} (hi : i < 3) : (seeL p l)[i]? = some (seeF p l i) := by
  have : i = 0 ∨ i = 1 ∨ i = 2 := by omega
  rcases this with rfl | rfl | rfl <;> rfl
theorem spansL_at (c : Cs) (l : List Int) {i : Nat} (hi : i < 3) : (spansL c l)[i]? = some ⟨spLo c l i l.length, spHi c l i l.length⟩ := by
  have : i = 0 ∨ i = 1 ∨ i = 2 := by omega
  rcases this with rfl | rfl | rfl <;> rfl
/-- All is in its box. -/
structure BoxP (na nb : List Int) (s d : List Rg) : Prop where
  at' : ∀ i, i < 3 → ∃ v w r q, na[i]? = some v ∧ nb[i]? = some w ∧ s[i]? = some r ∧ d[i]? = some q ∧ ¬ v < r.lo ∧ ¬ r.hi < v ∧ wr .i64 (v - w) = v - w ∧ ¬ v - w < q.lo ∧ ¬ q.hi < v - w
theorem boxP {c : Cs} (hc : OkC c) {x : Tr} (hx : OkT c x) {a b : List Int} (hsa : Spec a) (hs : Spec (lessL a b)) (hna : a.length = c.lamp.length) (hnb : b.length = a.length) :
    BoxP (seeL (pX x) a) (seeL (pX x) b) (spansL c a) (spansL c (lessL a b)) := ⟨fun i hi => by
  refine ⟨_, _, _, _, seeL_at _ _ hi, seeL_at _ _ hi, spansL_at _ _ hi, spansL_at _ _ hi, ?_⟩
  have h1 := boxed hc hx (Nat.le_of_eq hna) hi
  have h2 := boxed hc hx (l := lessL a b) (Nat.le_of_eq (by rw [lessL_len]; exact hna)) hi
  rw [see_less hnb] at h2
  have h3 := spLo_bound hc hs hi (Nat.le_refl _)
  have h4 := spHi_bound hc hs hi (Nat.le_refl _)
  refine ⟨Int.not_lt.2 h1.1, Int.not_lt.2 h1.2, wr_in (by clear h1; omega), Int.not_lt.2 h2.1, Int.not_lt.2 h2.2⟩⟩
set_option maxHeartbeats 8000000 in
theorem boxedLaw (c : Cs) (a b by' : List Int) (cu : Int) (hby : B16 by') (hcu : 0 ≤ cu ∧ cu < 256) : Pure Try.prog 8 [csV c, ints a, ints b, u16s by', .c (.d (.int .u8 cu))] (B true) := by
  refine pure_wkE (bad := [10018, 16, 30016, 30016, 30016, 30016, 30016, 30016, 30016, 30016, 30016, 30016, 30016, 30016, 30016, 30016, 30016, 30016, 21, 22]) (kp := kp8) (X := tx) (nt := 337) (rs := [.tmp 10]) Try.func8 rfl rfl rfl rfl mo (by kernel_rfl) rfl rfl (fun hf => ?_)
  simp (maxSteps := 2000000) only [go_sem, reduceIte, Nat.reduceEqDiff, Nat.reduceAdd, Nat.reduceBEq, lk8, csV, csC, ints, u16s]
  refine aops_pure' (fine42 c a b) rfl rfl (by first | exact wk_refls _ | (repeat constructor)) ?_
  cases hf : fineB c a b with
  | false =>
    simp (maxSteps := 2000000) only [go_sem, reduceIte, Nat.reduceEqDiff, Nat.reduceAdd, Nat.reduceBEq, lk8]
    refine aops_pure' (works15) rfl rfl (by first | exact wk_refls _ | (repeat constructor)) ?_
    simp (maxSteps := 2000000) only [go_sem, reduceIte, Nat.reduceEqDiff, lk8]
  | true =>
  simp (maxSteps := 2000000) only [go_sem, reduceIte, Nat.reduceEqDiff, lk8]
  by_cases h1 : (40 : Int) < by'.length
  · simp (maxSteps := 2000000) only [go_sem, reduceIte, Nat.reduceEqDiff, Nat.reduceAdd, Nat.reduceBEq, lk8, h1]
    refine aops_pure' (works15) rfl rfl (by first | exact wk_refls _ | (repeat constructor)) ?_
    simp (maxSteps := 2000000) only [go_sem, reduceIte, Nat.reduceEqDiff, lk8]
  have h := fineB_iff hf
  obtain ⟨hc, ha, hb⟩ := (okChips_iff c a b).1 h
  obtain ⟨hsa, hna⟩ := chip_spec hc ha
  obtain ⟨hsb, hnb⟩ := chip_spec hc hb
  obtain ⟨hs, hn⟩ := less_spec hc ha hb
  have hT := trueT_ok hc by'
  have c1 : chip1 c a = 0 := (chip1_iff c a).2 ⟨hc, ha⟩
  have c2 : chip1 c b = 0 := (chip1_iff c b).2 ⟨hc, hb⟩
  have n1 := numbers16 c (trueT c by') a
  have n2 := numbers16 c (trueT c by') b
  rw [numV_ok c1 ((okTr_iff c _).2 hT)] at n1
  rw [numV_ok c2 ((okTr_iff c _).2 hT)] at n2
  have hsp := spans18 c a
  have esp : spaV c a = .tup [rgs (spansL c a), I 0] := by simp only [spaV, c1, if_true]
  rw [esp] at hsp
  have hap := apart24 c a b
  have eap : apaV c a b = .tup [rgs (spansL c (lessL a b)), I 0] := by simp only [apaV, apaL, h, if_true]
  rw [eap] at hap
  have ht43 := true43 c by' hc hby
  have hbox := boxP hc hT hsa hs hna (by omega)
  have l1 : (seeL (pX (trueT c by')) a).length = 3 := rfl
  have l2 : (seeL (pX (trueT c by')) b).length = 3 := rfl
  have l3 : (spansL c a).length = 3 := rfl
  have l4 : (spansL c (lessL a b)).length = 3 := rfl
  have d0 := spansL_at c (lessL a b) (i := 0) (by decide)
  have d1 := spansL_at c (lessL a b) (i := 1) (by decide)
  have d2 := spansL_at c (lessL a b) (i := 2) (by decide)
  generalize seeL (pX (trueT c by')) a = na at *
  generalize seeL (pX (trueT c by')) b = nb at *
  generalize spansL c a = sp at *
  generalize spansL c (lessL a b) = dp at *
  generalize trueT c by' = x at *
  have h8 := hc.n8
  simp (maxSteps := 2000000) only [go_sem, reduceIte, Nat.reduceEqDiff, Nat.reduceAdd, Nat.reduceBEq, lk8, h1, csC]
  refine aops_pure' (ht43) rfl rfl (by first | exact wk_refls _ | (repeat constructor)) ?_
  simp (maxSteps := 2000000) only [go_sem, reduceIte, Nat.reduceEqDiff, Nat.reduceAdd, lk8, csC, trV, trC]
  refine aops_pure' (n1) rfl rfl (by first | exact wk_refls _ | (repeat constructor)) ?_
  simp (maxSteps := 2000000) only [go_sem, reduceIte, Nat.reduceEqDiff, Nat.reduceAdd, lk8, csC, trC]
  refine aops_pure' (n2) rfl rfl (by first | exact wk_refls _ | (repeat constructor)) ?_
  simp (maxSteps := 2000000) only [go_sem, reduceIte, Nat.reduceEqDiff, Nat.reduceAdd, lk8, csC, trC]
  refine aops_pure' (hsp) rfl rfl (by first | exact wk_refls _ | (repeat constructor)) ?_
  simp (maxSteps := 2000000) only [go_sem, reduceIte, Nat.reduceEqDiff, Nat.reduceAdd, lk8, csC, trC]
  refine aops_pure' (hap) rfl rfl (by first | exact wk_refls _ | (repeat constructor)) ?_
  simp (maxSteps := 2000000) only [go_sem, reduceIte, Nat.reduceEqDiff, Nat.reduceAdd, Nat.reduceBEq, lk8, csC, trC, ints, rgs, l1, l2, l3, l4, y3]
  refine goE_loop (bad := [10018, 16, 30016, 30016, 30016, 30016, 30016, 30016, 30016, 30016, 30016, 30016, 30016, 30016, 30016, 30016, 30016, 30016, 21, 22]) (kp := kp8) (fun i : Nat => { slots := [(1, ints a), (2, ints b), (4, .c (.d (.int .u8 cu))), (5, .c (.ptr 0 0)), (12, ints na), (14, ints nb), (16, rgs sp), (18, rgs dp), (20, I i)], heap := [.cells (csC c), .cells (trC x)], marks := [] }) (fun i => i ≤ 3) (fun i => 3 - i) 0 mo (by kernel_rfl) ?_ (Nat.zero_le _) ?_
  · refine ent_weaken [] rfl rfl (Nat.zero_le _) rfl rfl ?_
    simp (maxSteps := 2000000) only [go_sem, reduceIte, Nat.reduceEqDiff, Nat.reduceAdd, Nat.reduceLT, lk8, ints, rgs]
    all_goals first | exact .refl _ | exact ⟨.refl _, .refl _⟩ | exact ⟨.refl _, .refl _, .refl _⟩ | exact ⟨.refl _, _, rfl⟩ | exact ⟨_, rfl⟩ | exact ⟨.refl _, [], by simp⟩ | exact ⟨[], by simp⟩
  rintro i hi
  simp (maxSteps := 2000000) only [go_sem, reduceIte, Nat.reduceEqDiff, Nat.reduceAdd, Nat.reduceBEq, lk8, ints, rgs, csC, trC]
  by_cases hlt : i < 3
  · have hlt' : (i : Int) < 3 := by omega
    have m1 : 3 - (i + 1) < 3 - i := by omega
    have k1 : (i : Int) < na.length := by omega
    have k2 : (i : Int) < nb.length := by omega
    have k3 : (i : Int) < sp.length := by omega
    have k4 : (i : Int) < dp.length := by omega
    have w3 : wr .i64 ((i : Int) + 1) = ((i + 1 : Nat) : Int) := by rw [wr_i64] <;> omega
    obtain ⟨v, w, r, q, g1, g2, g3, g4, f1, f2, f3, f4, f5⟩ := hbox.at' i hlt
    clear hbox
    simp (maxSteps := 2000000) only [go_sem, reduceIte, Nat.reduceEqDiff, Nat.reduceAdd, Nat.reduceLeDiff, Nat.reduceBEq, lk8, hlt', g1, g2, g3, g4, rgD, iD, nn, k1, k2, k3, k4, w3, f1, f2, f3, f4, f5]
    refine ⟨i + 1, hlt, m1, ?_⟩
    refine ent_weaken [] rfl rfl (Nat.zero_le _) rfl rfl ?_
    simp (maxSteps := 2000000) only [go_sem, reduceIte, Nat.reduceEqDiff, Nat.reduceAdd, Nat.reduceLT, lk8, ints, rgs, csC, trC]
    all_goals first | exact .refl _ | exact ⟨.refl _, .refl _⟩ | exact ⟨.refl _, .refl _, .refl _⟩ | exact ⟨.refl _, _, rfl⟩ | exact ⟨_, rfl⟩ | exact ⟨.refl _, [], by simp⟩ | exact ⟨[], by simp⟩
  have hlt' : ¬ (i : Int) < 3 := by omega
  clear hbox
  have tk : cu.tmod 3 = 0 ∨ cu.tmod 3 = 1 ∨ cu.tmod 3 = 2 := by
    rw [Int.tmod_eq_emod_of_nonneg hcu.1]; omega
  have wc : wr .i64 cu = cu := wr_in (by omega)
  have hk43 := true_at hc
  have he3' : (c.eye.length : Int) = 3 := by rw [hc.e3]; rfl
  obtain ⟨r0, hr0, hl0⟩ := hc.row (show 0 < 3 by decide)
  obtain ⟨r1, hr1, hl1⟩ := hc.row (show 1 < 3 by decide)
  obtain ⟨r2, hr2, hl2⟩ := hc.row (show 2 < 3 by decide)
  rcases tk with tk | tk | tk
  · simp (maxSteps := 2000000) only [go_sem, reduceIte, Nat.reduceEqDiff, Nat.reduceAdd, Nat.reduceLeDiff, Nat.reduceBEq, Int.reduceEq, lk8, hlt', wc, tk]
    clear wc tk
    refine de_makes (m := 8) hk43 rfl rfl (by first | exact wk_refls _ | (repeat constructor)) rfl rfl rfl (tvX_sh _ _) (tvB_sh _ _ _ _ _ _ _) (by decide) rfl (tvB_shB _ _ _ _ _ _) ?_
    simp (maxSteps := 2000000) only [go_sem, reduceIte, Nat.reduceEqDiff, Nat.reduceAdd, lk8, csC, trC, setMany]
    refine de_makes (m := 8) hk43 rfl rfl (by first | exact wk_refls _ | (repeat constructor)) rfl rfl rfl (tvX_sh _ _) (tvB_sh _ _ _ _ _ _ _) (by decide) rfl (tvB_shB _ _ _ _ _ _) ?_
    simp (maxSteps := 2000000) only [go_sem, reduceIte, Nat.reduceEqDiff, Nat.reduceAdd, Nat.reduceLeDiff, lk8, csC, trC, setMany]
    refine ⟨pairsOk_sk2 ?_, ?_⟩
    · simp only [List.map_cons, List.map_nil, skN2, skE2, skB, intsC_filter, List.filter_cons, List.filter_nil, C.idB, if_true]
      first | kernel_rfl | exact pairsOk_ord (by kernel_rfl)
    refine goE_loop (bad := [10018, 16, 30016, 30016, 30016, 30016, 30016, 30016, 30016, 30016, 30016, 30016, 30016, 30016, 30016, 30016, 30016, 30016, 21, 22]) (kp := kp8) (fun n : Nat => { slots := [(1, ints a), (2, ints b), (5, .c (.ptr 0 0)), (18, rgs dp), (21, I 0), (22, .c (.ptr 18 0)), (23, .c (.ptr 19 0)), (24, I n)], heap := hbk c x (selL c.lamp.length (upTo (lessP a b) n) c.l) (selL c.lamp.length (upTo (lessP a b) n) (c.e 0)) (selL c.lamp.length (fun _ => false) (c.e 1)) (selL c.lamp.length (fun _ => false) (c.e 2)) (selL c.lamp.length (upTo (moreP a b) n) c.l) (selL c.lamp.length (upTo (moreP a b) n) (c.e 0)) (selL c.lamp.length (fun _ => false) (c.e 1)) (selL c.lamp.length (fun _ => false) (c.e 2)), marks := [] }) (fun n => n ≤ a.length) (fun n => a.length - n) 0 mo (by kernel_rfl) ?_ (Nat.zero_le _) ?_
    · refine ent_weaken [] (by simp only [hbk, vI, selL_none, csC, trC]; rfl) rfl (Nat.zero_le _) (by simp [hbk, AB.low, vI, intsC_low, csC, trC, C.lowL, C.low]) rfl ?_
      simp (maxSteps := 2000000) only [go_sem, reduceIte, Nat.reduceEqDiff, Nat.reduceAdd, Nat.reduceLT, lk8, ints, rgs, hbk, vI, selL_none, csC, trC]
      all_goals first | exact .refl _ | exact ⟨.refl _, .refl _⟩ | exact ⟨.refl _, .refl _, .refl _⟩ | exact ⟨.refl _, _, rfl⟩ | exact ⟨_, rfl⟩ | exact ⟨.refl _, [], by simp⟩ | exact ⟨[], by simp⟩
    rintro n hn2
    simp (maxSteps := 2000000) only [go_sem, reduceIte, Nat.reduceEqDiff, Nat.reduceAdd, Nat.reduceBEq, lk8, ints, rgs, hbk, vI, csC, trC]
    by_cases hlt2 : n < a.length
    · refine stop_mk _ .refl ?_
      have hlt2' : (n : Int) < a.length := by omega
      have hlt3' : (n : Int) < b.length := by omega
      have hlt4' : (n : Int) < c.lamp.length := by omega
      have hlt5' : (n : Int) < r0.length := by omega
      have hln : n < c.lamp.length := by omega
      have m2 : a.length - (n + 1) < a.length - n := by omega
      have ga := gI_lt hlt2
      have gb := gI_lt (l := b) (b := n) (by omega)
      have g3 := Cs.l_lt hln
      have g4 := Cs.e_at hr0 (b := n) (by omega)
      have sb1 : decide (n + 1 ≤ c.lamp.length) = true := by simp; omega
      have sl := selL_len c.lamp.length
      have d0 : decide ((0 : Int) ≤ (n : Int)) = true := by simp
      have w5 : wr .i64 ((n : Int) + 1) = ((n + 1 : Nat) : Int) := wr_succ (n := 4096) (by omega) (by omega)
      by_cases hgt : gI b n < gI a n
      · have p1 : moreP a b n = true := by simp [moreP, hgt]
        have p2 : lessP a b n = false := by simp [lessP, hgt]
        simp (maxSteps := 2000000) only [go_sem, reduceIte, Nat.reduceEqDiff, Nat.reduceAdd, Nat.reduceLT, Nat.reduceLeDiff, Nat.reduceBEq, Int.reduceLT, Int.reduceLE, Int.reduceToNat, lk8, ints, rgs, hbk, vI, csC, trC, hlt2', hlt3', ga, gb, iD, nn, hgt, d0, g3, g4, hr0, he3', hlt4', hlt5', rgD, rowR, intsC_len, setMany_ints, Nat.mul_one, selL_len, sb1, y0, y1, y2, y3, List.tail_cons, w5]
        have e1 := selL_set c.l hln p1
        have e2 := selL_set (c.e 0) hln p1
        have e3 := selL_keep (N := c.lamp.length) c.l p2
        have e4 := selL_keep (N := c.lamp.length) (c.e 0) p2
        refine ⟨by first | kernel_rfl | exact pairsOk_ord (by kernel_rfl), n + 1, hlt2, m2, ?_⟩
        refine ent_weaken [] (by simp only [e1, e2, e3, e4, List.append_nil]) rfl (Nat.zero_le _) (by simp [hbk, AB.low, vI, intsC_low, csC, trC, C.lowL, C.low]) rfl ?_
        simp (maxSteps := 2000000) only [go_sem, reduceIte, Nat.reduceEqDiff, Nat.reduceAdd, Nat.reduceLT, lk8, ints, rgs, hbk, vI, csC, trC, e1, e2, e3, e4]
        all_goals first | exact .refl _ | exact ⟨.refl _, .refl _⟩ | exact ⟨.refl _, .refl _, .refl _⟩ | exact ⟨.refl _, _, rfl⟩ | exact ⟨_, rfl⟩ | exact ⟨.refl _, [], by simp⟩ | exact ⟨[], by simp⟩
      · have p1 : moreP a b n = false := by simp [moreP, hgt]
        have p2 : lessP a b n = true := by simp [lessP, hgt]
        simp (maxSteps := 2000000) only [go_sem, reduceIte, Nat.reduceEqDiff, Nat.reduceAdd, Nat.reduceLT, Nat.reduceLeDiff, Nat.reduceBEq, Int.reduceLT, Int.reduceLE, Int.reduceToNat, lk8, ints, rgs, hbk, vI, csC, trC, hlt2', hlt3', ga, gb, iD, nn, hgt, d0, g3, g4, hr0, he3', hlt4', hlt5', rgD, rowR, intsC_len, setMany_ints, Nat.mul_one, selL_len, sb1, y0, y1, y2, y3, List.tail_cons, w5]
        have e1 := selL_set c.l hln p2
        have e2 := selL_set (c.e 0) hln p2
        have e3 := selL_keep (N := c.lamp.length) c.l p1
        have e4 := selL_keep (N := c.lamp.length) (c.e 0) p1
        refine ⟨by first | kernel_rfl | exact pairsOk_ord (by kernel_rfl), n + 1, hlt2, m2, ?_⟩
        refine ent_weaken [] (by simp only [e1, e2, e3, e4, List.append_nil]) rfl (Nat.zero_le _) (by simp [hbk, AB.low, vI, intsC_low, csC, trC, C.lowL, C.low]) rfl ?_
        simp (maxSteps := 2000000) only [go_sem, reduceIte, Nat.reduceEqDiff, Nat.reduceAdd, Nat.reduceLT, lk8, ints, rgs, hbk, vI, csC, trC, e1, e2, e3, e4]
        all_goals first | exact .refl _ | exact ⟨.refl _, .refl _⟩ | exact ⟨.refl _, .refl _, .refl _⟩ | exact ⟨.refl _, _, rfl⟩ | exact ⟨_, rfl⟩ | exact ⟨.refl _, [], by simp⟩ | exact ⟨[], by simp⟩
    · have hlt2' : ¬ (n : Int) < a.length := by omega
      have en : n = c.lamp.length := by omega
      simp (maxSteps := 2000000) only [go_sem, lk8, hlt2']
      have zl := end_lo hc (a := a) (b := b) (by omega) hna (k := 0) (by decide) (p := lessP a b) (fun n _ => by simp [lessP])
      have zh := end_hi hc (a := a) (b := b) (by omega) hna (k := 0) (by decide) (p := moreP a b) (fun n _ => by simp [moreP])
      have zb1 := spLo_bound hc hs (k := 0) (by decide) (Nat.le_refl _)
      have zb2 := spHi_bound hc hs (k := 0) (by decide) (Nat.le_refl _)
      have hn4 : c.lamp.length ≤ 4096 := by omega
      refine stop_mk { slots := [(1, ints a), (2, ints b), (5, .c (.ptr 0 0)), (18, rgs dp), (21, I 0), (22, .c (.ptr 18 0)), (23, .c (.ptr 19 0)), (24, I n), (174, B false)], heap := hz c x (endT c 0 (lessP a b)) (endT c 0 (moreP a b)), marks := [] } ?_ ?_
      · rw [endT_0, endT_0]
        simp only [en, selL_all]
        refine Ent.trans (ent_gone 2) (Ent.trans (ent_gone 3) (Ent.trans (ent_gone 4) (Ent.trans (ent_gone 10) (Ent.trans (ent_gone 11) (Ent.trans (ent_gone 12) ?_)))))
        exact frz2 (fun _ _ _ => rfl) (fun _ _ _ => rfl) (fzS (by simp [fzNV, fzN, B, I, ints, rgs])) hn4 (selL_len _ _ _) (selL_len _ _ _) (selL_len _ _ _) (selL_len _ _ _) (selL_len _ _ _) (selL_len _ _ _) (selL_len _ _ _) (selL_len _ _ _)
      have o1 := (okTr_iff c _).2 (endT_ok hc 0 (lessP a b))
      have o2 := (okTr_iff c _).2 (endT_ok hc 0 (moreP a b))
      generalize endT c 0 (lessP a b) = lo at *
      generalize endT c 0 (moreP a b) = hi at *
      have q1 := numbers16 c lo a
      have q2 := numbers16 c lo b
      have q3 := numbers16 c hi a
      have q4 := numbers16 c hi b
      rw [numV_ok c1 o1] at q1
      rw [numV_ok c2 o1] at q2
      rw [numV_ok c1 o2] at q3
      rw [numV_ok c2 o2] at q4
      have s1 := seeL_at (pX lo) a (i := 0) (by decide)
      have s2 := seeL_at (pX lo) b (i := 0) (by decide)
      have s3 := seeL_at (pX hi) a (i := 0) (by decide)
      have s4 := seeL_at (pX hi) b (i := 0) (by decide)
      have u1 : (seeL (pX lo) a).length = 3 := rfl
      have u2 : (seeL (pX lo) b).length = 3 := rfl
      have u3 : (seeL (pX hi) a).length = 3 := rfl
      have u4 : (seeL (pX hi) b).length = 3 := rfl
      have z1 : wr .i64 (seeF (pX lo) a 0 - seeF (pX lo) b 0) = spLo c (lessL a b) 0 (lessL a b).length := by rw [zl]; exact wr_in (by omega)
      have z2 : wr .i64 (seeF (pX hi) a 0 - seeF (pX hi) b 0) = spHi c (lessL a b) 0 (lessL a b).length := by rw [zh]; clear z1; exact wr_in (by omega)
      generalize seeL (pX lo) a = p1 at *
      generalize seeL (pX lo) b = p2 at *
      generalize seeL (pX hi) a = p3 at *
      generalize seeL (pX hi) b = p4 at *
      generalize seeF (pX lo) a 0 = v1 at *
      generalize seeF (pX lo) b 0 = v2 at *
      generalize seeF (pX hi) a 0 = v3 at *
      generalize seeF (pX hi) b 0 = v4 at *
      generalize spLo c (lessL a b) 0 (lessL a b).length = e1 at *
      generalize spHi c (lessL a b) 0 (lessL a b).length = e2 at *
      simp (maxSteps := 2000000) only [go_sem, reduceIte, Nat.reduceEqDiff, Nat.reduceAdd, Nat.reduceBEq, lk8, ints, rgs, hz, csC, trC]
      refine aops_pure' (q1) rfl rfl (by first | exact wk_refls _ | (repeat constructor)) ?_
      simp (maxSteps := 2000000) only [go_sem, reduceIte, Nat.reduceEqDiff, Nat.reduceAdd, lk8, csC, trC]
      refine aops_pure' (q2) rfl rfl (by first | exact wk_refls _ | (repeat constructor)) ?_
      simp (maxSteps := 2000000) only [go_sem, reduceIte, Nat.reduceEqDiff, Nat.reduceAdd, lk8, csC, trC]
      refine aops_pure' (q3) rfl rfl (by first | exact wk_refls _ | (repeat constructor)) ?_
      simp (maxSteps := 2000000) only [go_sem, reduceIte, Nat.reduceEqDiff, Nat.reduceAdd, lk8, csC, trC]
      refine aops_pure' (q4) rfl rfl (by first | exact wk_refls _ | (repeat constructor)) ?_
      simp (maxSteps := 2000000) only [go_sem, reduceIte, Nat.reduceEqDiff, Nat.reduceAdd, Nat.reduceLeDiff, Nat.reduceBEq, Int.reduceLT, Int.reduceLE, Int.reduceToNat, lk8, ints, rgs, u1, u2, u3, u4, y0, y1, y2, y3, s1, s2, s3, s4, d0, rgD, iD, nn, l4, z1, z2, List.append_eq, List.cons_append, List.nil_append]
      refine dops_pure' (works15) rfl rfl (by first | exact wk_refls _ | (repeat constructor)) (by kernel_rfl) ?_
      simp (maxSteps := 2000000) only [go_sem, reduceIte, Nat.reduceEqDiff, Nat.reduceAdd, lk8]
  · simp (maxSteps := 2000000) only [go_sem, reduceIte, Nat.reduceEqDiff, Nat.reduceAdd, Nat.reduceLeDiff, Nat.reduceBEq, Int.reduceEq, lk8, hlt', wc, tk]
    clear wc tk
    refine de_makes (m := 8) hk43 rfl rfl (by first | exact wk_refls _ | (repeat constructor)) rfl rfl rfl (tvX_sh _ _) (tvB_sh _ _ _ _ _ _ _) (by decide) rfl (tvB_shB _ _ _ _ _ _) ?_
    simp (maxSteps := 2000000) only [go_sem, reduceIte, Nat.reduceEqDiff, Nat.reduceAdd, lk8, csC, trC, setMany]
    refine de_makes (m := 8) hk43 rfl rfl (by first | exact wk_refls _ | (repeat constructor)) rfl rfl rfl (tvX_sh _ _) (tvB_sh _ _ _ _ _ _ _) (by decide) rfl (tvB_shB _ _ _ _ _ _) ?_
    simp (maxSteps := 2000000) only [go_sem, reduceIte, Nat.reduceEqDiff, Nat.reduceAdd, Nat.reduceLeDiff, lk8, csC, trC, setMany]
    refine ⟨pairsOk_sk2 ?_, ?_⟩
    · simp only [List.map_cons, List.map_nil, skN2, skE2, skB, intsC_filter, List.filter_cons, List.filter_nil, C.idB, if_true]
      first | kernel_rfl | exact pairsOk_ord (by kernel_rfl)
    refine goE_loop (bad := [10018, 16, 30016, 30016, 30016, 30016, 30016, 30016, 30016, 30016, 30016, 30016, 30016, 30016, 30016, 30016, 30016, 30016, 21, 22]) (kp := kp8) (fun n : Nat => { slots := [(1, ints a), (2, ints b), (5, .c (.ptr 0 0)), (18, rgs dp), (21, I 1), (22, .c (.ptr 18 0)), (23, .c (.ptr 19 0)), (24, I n)], heap := hbk c x (selL c.lamp.length (upTo (lessP a b) n) c.l) (selL c.lamp.length (fun _ => false) (c.e 0)) (selL c.lamp.length (upTo (lessP a b) n) (c.e 1)) (selL c.lamp.length (fun _ => false) (c.e 2)) (selL c.lamp.length (upTo (moreP a b) n) c.l) (selL c.lamp.length (fun _ => false) (c.e 0)) (selL c.lamp.length (upTo (moreP a b) n) (c.e 1)) (selL c.lamp.length (fun _ => false) (c.e 2)), marks := [] }) (fun n => n ≤ a.length) (fun n => a.length - n) 0 mo (by kernel_rfl) ?_ (Nat.zero_le _) ?_
    · refine ent_weaken [] (by simp only [hbk, vI, selL_none, csC, trC]; rfl) rfl (Nat.zero_le _) (by simp [hbk, AB.low, vI, intsC_low, csC, trC, C.lowL, C.low]) rfl ?_
      simp (maxSteps := 2000000) only [go_sem, reduceIte, Nat.reduceEqDiff, Nat.reduceAdd, Nat.reduceLT, lk8, ints, rgs, hbk, vI, selL_none, csC, trC]
      all_goals first | exact .refl _ | exact ⟨.refl _, .refl _⟩ | exact ⟨.refl _, .refl _, .refl _⟩ | exact ⟨.refl _, _, rfl⟩ | exact ⟨_, rfl⟩ | exact ⟨.refl _, [], by simp⟩ | exact ⟨[], by simp⟩
    rintro n hn2
    simp (maxSteps := 2000000) only [go_sem, reduceIte, Nat.reduceEqDiff, Nat.reduceAdd, Nat.reduceBEq, lk8, ints, rgs, hbk, vI, csC, trC]
    by_cases hlt2 : n < a.length
    · refine stop_mk _ .refl ?_
      have hlt2' : (n : Int) < a.length := by omega
      have hlt3' : (n : Int) < b.length := by omega
      have hlt4' : (n : Int) < c.lamp.length := by omega
      have hlt5' : (n : Int) < r1.length := by omega
      have hln : n < c.lamp.length := by omega
      have m2 : a.length - (n + 1) < a.length - n := by omega
      have ga := gI_lt hlt2
      have gb := gI_lt (l := b) (b := n) (by omega)
      have g3 := Cs.l_lt hln
      have g4 := Cs.e_at hr1 (b := n) (by omega)
      have sb1 : decide (n + 1 ≤ c.lamp.length) = true := by simp; omega
      have sl := selL_len c.lamp.length
      have d0 : decide ((0 : Int) ≤ (n : Int)) = true := by simp
      have w5 : wr .i64 ((n : Int) + 1) = ((n + 1 : Nat) : Int) := wr_succ (n := 4096) (by omega) (by omega)
      by_cases hgt : gI b n < gI a n
      · have p1 : moreP a b n = true := by simp [moreP, hgt]
        have p2 : lessP a b n = false := by simp [lessP, hgt]
        simp (maxSteps := 2000000) only [go_sem, reduceIte, Nat.reduceEqDiff, Nat.reduceAdd, Nat.reduceLT, Nat.reduceLeDiff, Nat.reduceBEq, Int.reduceLT, Int.reduceLE, Int.reduceToNat, lk8, ints, rgs, hbk, vI, csC, trC, hlt2', hlt3', ga, gb, iD, nn, hgt, d0, g3, g4, hr1, he3', hlt4', hlt5', rgD, rowR, intsC_len, setMany_ints, Nat.mul_one, selL_len, sb1, y0, y1, y2, y3, List.tail_cons, w5]
        have e1 := selL_set c.l hln p1
        have e2 := selL_set (c.e 1) hln p1
        have e3 := selL_keep (N := c.lamp.length) c.l p2
        have e4 := selL_keep (N := c.lamp.length) (c.e 1) p2
        refine ⟨by first | kernel_rfl | exact pairsOk_ord (by kernel_rfl), n + 1, hlt2, m2, ?_⟩
        refine ent_weaken [] (by simp only [e1, e2, e3, e4, List.append_nil]) rfl (Nat.zero_le _) (by simp [hbk, AB.low, vI, intsC_low, csC, trC, C.lowL, C.low]) rfl ?_
        simp (maxSteps := 2000000) only [go_sem, reduceIte, Nat.reduceEqDiff, Nat.reduceAdd, Nat.reduceLT, lk8, ints, rgs, hbk, vI, csC, trC, e1, e2, e3, e4]
        all_goals first | exact .refl _ | exact ⟨.refl _, .refl _⟩ | exact ⟨.refl _, .refl _, .refl _⟩ | exact ⟨.refl _, _, rfl⟩ | exact ⟨_, rfl⟩ | exact ⟨.refl _, [], by simp⟩ | exact ⟨[], by simp⟩
      · have p1 : moreP a b n = false := by simp [moreP, hgt]
        have p2 : lessP a b n = true := by simp [lessP, hgt]
        simp (maxSteps := 2000000) only [go_sem, reduceIte, Nat.reduceEqDiff, Nat.reduceAdd, Nat.reduceLT, Nat.reduceLeDiff, Nat.reduceBEq, Int.reduceLT, Int.reduceLE, Int.reduceToNat, lk8, ints, rgs, hbk, vI, csC, trC, hlt2', hlt3', ga, gb, iD, nn, hgt, d0, g3, g4, hr1, he3', hlt4', hlt5', rgD, rowR, intsC_len, setMany_ints, Nat.mul_one, selL_len, sb1, y0, y1, y2, y3, List.tail_cons, w5]
        have e1 := selL_set c.l hln p2
        have e2 := selL_set (c.e 1) hln p2
        have e3 := selL_keep (N := c.lamp.length) c.l p1
        have e4 := selL_keep (N := c.lamp.length) (c.e 1) p1
        refine ⟨by first | kernel_rfl | exact pairsOk_ord (by kernel_rfl), n + 1, hlt2, m2, ?_⟩
        refine ent_weaken [] (by simp only [e1, e2, e3, e4, List.append_nil]) rfl (Nat.zero_le _) (by simp [hbk, AB.low, vI, intsC_low, csC, trC, C.lowL, C.low]) rfl ?_
        simp (maxSteps := 2000000) only [go_sem, reduceIte, Nat.reduceEqDiff, Nat.reduceAdd, Nat.reduceLT, lk8, ints, rgs, hbk, vI, csC, trC, e1, e2, e3, e4]
        all_goals first | exact .refl _ | exact ⟨.refl _, .refl _⟩ | exact ⟨.refl _, .refl _, .refl _⟩ | exact ⟨.refl _, _, rfl⟩ | exact ⟨_, rfl⟩ | exact ⟨.refl _, [], by simp⟩ | exact ⟨[], by simp⟩
    · have hlt2' : ¬ (n : Int) < a.length := by omega
      have en : n = c.lamp.length := by omega
      simp (maxSteps := 2000000) only [go_sem, lk8, hlt2']
      have zl := end_lo hc (a := a) (b := b) (by omega) hna (k := 1) (by decide) (p := lessP a b) (fun n _ => by simp [lessP])
      have zh := end_hi hc (a := a) (b := b) (by omega) hna (k := 1) (by decide) (p := moreP a b) (fun n _ => by simp [moreP])
      have zb1 := spLo_bound hc hs (k := 1) (by decide) (Nat.le_refl _)
      have zb2 := spHi_bound hc hs (k := 1) (by decide) (Nat.le_refl _)
      have hn4 : c.lamp.length ≤ 4096 := by omega
      refine stop_mk { slots := [(1, ints a), (2, ints b), (5, .c (.ptr 0 0)), (18, rgs dp), (21, I 1), (22, .c (.ptr 18 0)), (23, .c (.ptr 19 0)), (24, I n), (174, B false)], heap := hz c x (endT c 1 (lessP a b)) (endT c 1 (moreP a b)), marks := [] } ?_ ?_
      · rw [endT_1, endT_1]
        simp only [en, selL_all]
        refine Ent.trans (ent_gone 2) (Ent.trans (ent_gone 3) (Ent.trans (ent_gone 4) (Ent.trans (ent_gone 10) (Ent.trans (ent_gone 11) (Ent.trans (ent_gone 12) ?_)))))
        exact frz2 (fun _ _ _ => rfl) (fun _ _ _ => rfl) (fzS (by simp [fzNV, fzN, B, I, ints, rgs])) hn4 (selL_len _ _ _) (selL_len _ _ _) (selL_len _ _ _) (selL_len _ _ _) (selL_len _ _ _) (selL_len _ _ _) (selL_len _ _ _) (selL_len _ _ _)
      have o1 := (okTr_iff c _).2 (endT_ok hc 1 (lessP a b))
      have o2 := (okTr_iff c _).2 (endT_ok hc 1 (moreP a b))
      generalize endT c 1 (lessP a b) = lo at *
      generalize endT c 1 (moreP a b) = hi at *
      have q1 := numbers16 c lo a
      have q2 := numbers16 c lo b
      have q3 := numbers16 c hi a
      have q4 := numbers16 c hi b
      rw [numV_ok c1 o1] at q1
      rw [numV_ok c2 o1] at q2
      rw [numV_ok c1 o2] at q3
      rw [numV_ok c2 o2] at q4
      have s1 := seeL_at (pX lo) a (i := 1) (by decide)
      have s2 := seeL_at (pX lo) b (i := 1) (by decide)
      have s3 := seeL_at (pX hi) a (i := 1) (by decide)
      have s4 := seeL_at (pX hi) b (i := 1) (by decide)
      have u1 : (seeL (pX lo) a).length = 3 := rfl
      have u2 : (seeL (pX lo) b).length = 3 := rfl
      have u3 : (seeL (pX hi) a).length = 3 := rfl
      have u4 : (seeL (pX hi) b).length = 3 := rfl
      have z1 : wr .i64 (seeF (pX lo) a 1 - seeF (pX lo) b 1) = spLo c (lessL a b) 1 (lessL a b).length := by rw [zl]; exact wr_in (by omega)
      have z2 : wr .i64 (seeF (pX hi) a 1 - seeF (pX hi) b 1) = spHi c (lessL a b) 1 (lessL a b).length := by rw [zh]; clear z1; exact wr_in (by omega)
      generalize seeL (pX lo) a = p1 at *
      generalize seeL (pX lo) b = p2 at *
      generalize seeL (pX hi) a = p3 at *
      generalize seeL (pX hi) b = p4 at *
      generalize seeF (pX lo) a 1 = v1 at *
      generalize seeF (pX lo) b 1 = v2 at *
      generalize seeF (pX hi) a 1 = v3 at *
      generalize seeF (pX hi) b 1 = v4 at *
      generalize spLo c (lessL a b) 1 (lessL a b).length = e1 at *
      generalize spHi c (lessL a b) 1 (lessL a b).length = e2 at *
      simp (maxSteps := 2000000) only [go_sem, reduceIte, Nat.reduceEqDiff, Nat.reduceAdd, Nat.reduceBEq, lk8, ints, rgs, hz, csC, trC]
      refine aops_pure' (q1) rfl rfl (by first | exact wk_refls _ | (repeat constructor)) ?_
      simp (maxSteps := 2000000) only [go_sem, reduceIte, Nat.reduceEqDiff, Nat.reduceAdd, lk8, csC, trC]
      refine aops_pure' (q2) rfl rfl (by first | exact wk_refls _ | (repeat constructor)) ?_
      simp (maxSteps := 2000000) only [go_sem, reduceIte, Nat.reduceEqDiff, Nat.reduceAdd, lk8, csC, trC]
      refine aops_pure' (q3) rfl rfl (by first | exact wk_refls _ | (repeat constructor)) ?_
      simp (maxSteps := 2000000) only [go_sem, reduceIte, Nat.reduceEqDiff, Nat.reduceAdd, lk8, csC, trC]
      refine aops_pure' (q4) rfl rfl (by first | exact wk_refls _ | (repeat constructor)) ?_
      simp (maxSteps := 2000000) only [go_sem, reduceIte, Nat.reduceEqDiff, Nat.reduceAdd, Nat.reduceLeDiff, Nat.reduceBEq, Int.reduceLT, Int.reduceLE, Int.reduceToNat, lk8, ints, rgs, u1, u2, u3, u4, y0, y1, y2, y3, s1, s2, s3, s4, d1, rgD, iD, nn, l4, z1, z2, List.append_eq, List.cons_append, List.nil_append]
      refine dops_pure' (works15) rfl rfl (by first | exact wk_refls _ | (repeat constructor)) (by kernel_rfl) ?_
      simp (maxSteps := 2000000) only [go_sem, reduceIte, Nat.reduceEqDiff, Nat.reduceAdd, lk8]
  · simp (maxSteps := 2000000) only [go_sem, reduceIte, Nat.reduceEqDiff, Nat.reduceAdd, Nat.reduceLeDiff, Nat.reduceBEq, Int.reduceEq, lk8, hlt', wc, tk]
    clear wc tk
    refine de_makes (m := 8) hk43 rfl rfl (by first | exact wk_refls _ | (repeat constructor)) rfl rfl rfl (tvX_sh _ _) (tvB_sh _ _ _ _ _ _ _) (by decide) rfl (tvB_shB _ _ _ _ _ _) ?_
    simp (maxSteps := 2000000) only [go_sem, reduceIte, Nat.reduceEqDiff, Nat.reduceAdd, lk8, csC, trC, setMany]
    refine de_makes (m := 8) hk43 rfl rfl (by first | exact wk_refls _ | (repeat constructor)) rfl rfl rfl (tvX_sh _ _) (tvB_sh _ _ _ _ _ _ _) (by decide) rfl (tvB_shB _ _ _ _ _ _) ?_
    simp (maxSteps := 2000000) only [go_sem, reduceIte, Nat.reduceEqDiff, Nat.reduceAdd, Nat.reduceLeDiff, lk8, csC, trC, setMany]
    refine ⟨pairsOk_sk2 ?_, ?_⟩
    · simp only [List.map_cons, List.map_nil, skN2, skE2, skB, intsC_filter, List.filter_cons, List.filter_nil, C.idB, if_true]
      first | kernel_rfl | exact pairsOk_ord (by kernel_rfl)
    refine goE_loop (bad := [10018, 16, 30016, 30016, 30016, 30016, 30016, 30016, 30016, 30016, 30016, 30016, 30016, 30016, 30016, 30016, 30016, 30016, 21, 22]) (kp := kp8) (fun n : Nat => { slots := [(1, ints a), (2, ints b), (5, .c (.ptr 0 0)), (18, rgs dp), (21, I 2), (22, .c (.ptr 18 0)), (23, .c (.ptr 19 0)), (24, I n)], heap := hbk c x (selL c.lamp.length (upTo (lessP a b) n) c.l) (selL c.lamp.length (fun _ => false) (c.e 0)) (selL c.lamp.length (fun _ => false) (c.e 1)) (selL c.lamp.length (upTo (lessP a b) n) (c.e 2)) (selL c.lamp.length (upTo (moreP a b) n) c.l) (selL c.lamp.length (fun _ => false) (c.e 0)) (selL c.lamp.length (fun _ => false) (c.e 1)) (selL c.lamp.length (upTo (moreP a b) n) (c.e 2)), marks := [] }) (fun n => n ≤ a.length) (fun n => a.length - n) 0 mo (by kernel_rfl) ?_ (Nat.zero_le _) ?_
    · refine ent_weaken [] (by simp only [hbk, vI, selL_none, csC, trC]; rfl) rfl (Nat.zero_le _) (by simp [hbk, AB.low, vI, intsC_low, csC, trC, C.lowL, C.low]) rfl ?_
      simp (maxSteps := 2000000) only [go_sem, reduceIte, Nat.reduceEqDiff, Nat.reduceAdd, Nat.reduceLT, lk8, ints, rgs, hbk, vI, selL_none, csC, trC]
      all_goals first | exact .refl _ | exact ⟨.refl _, .refl _⟩ | exact ⟨.refl _, .refl _, .refl _⟩ | exact ⟨.refl _, _, rfl⟩ | exact ⟨_, rfl⟩ | exact ⟨.refl _, [], by simp⟩ | exact ⟨[], by simp⟩
    rintro n hn2
    simp (maxSteps := 2000000) only [go_sem, reduceIte, Nat.reduceEqDiff, Nat.reduceAdd, Nat.reduceBEq, lk8, ints, rgs, hbk, vI, csC, trC]
    by_cases hlt2 : n < a.length
    · refine stop_mk _ .refl ?_
      have hlt2' : (n : Int) < a.length := by omega
      have hlt3' : (n : Int) < b.length := by omega
      have hlt4' : (n : Int) < c.lamp.length := by omega
      have hlt5' : (n : Int) < r2.length := by omega
      have hln : n < c.lamp.length := by omega
      have m2 : a.length - (n + 1) < a.length - n := by omega
      have ga := gI_lt hlt2
      have gb := gI_lt (l := b) (b := n) (by omega)
      have g3 := Cs.l_lt hln
      have g4 := Cs.e_at hr2 (b := n) (by omega)
      have sb1 : decide (n + 1 ≤ c.lamp.length) = true := by simp; omega
      have sl := selL_len c.lamp.length
      have d0 : decide ((0 : Int) ≤ (n : Int)) = true := by simp
      have w5 : wr .i64 ((n : Int) + 1) = ((n + 1 : Nat) : Int) := wr_succ (n := 4096) (by omega) (by omega)
      by_cases hgt : gI b n < gI a n
      · have p1 : moreP a b n = true := by simp [moreP, hgt]
        have p2 : lessP a b n = false := by simp [lessP, hgt]
        simp (maxSteps := 2000000) only [go_sem, reduceIte, Nat.reduceEqDiff, Nat.reduceAdd, Nat.reduceLT, Nat.reduceLeDiff, Nat.reduceBEq, Int.reduceLT, Int.reduceLE, Int.reduceToNat, lk8, ints, rgs, hbk, vI, csC, trC, hlt2', hlt3', ga, gb, iD, nn, hgt, d0, g3, g4, hr2, he3', hlt4', hlt5', rgD, rowR, intsC_len, setMany_ints, Nat.mul_one, selL_len, sb1, y0, y1, y2, y3, List.tail_cons, w5]
        have e1 := selL_set c.l hln p1
        have e2 := selL_set (c.e 2) hln p1
        have e3 := selL_keep (N := c.lamp.length) c.l p2
        have e4 := selL_keep (N := c.lamp.length) (c.e 2) p2
        refine ⟨by first | kernel_rfl | exact pairsOk_ord (by kernel_rfl), n + 1, hlt2, m2, ?_⟩
        refine ent_weaken [] (by simp only [e1, e2, e3, e4, List.append_nil]) rfl (Nat.zero_le _) (by simp [hbk, AB.low, vI, intsC_low, csC, trC, C.lowL, C.low]) rfl ?_
        simp (maxSteps := 2000000) only [go_sem, reduceIte, Nat.reduceEqDiff, Nat.reduceAdd, Nat.reduceLT, lk8, ints, rgs, hbk, vI, csC, trC, e1, e2, e3, e4]
        all_goals first | exact .refl _ | exact ⟨.refl _, .refl _⟩ | exact ⟨.refl _, .refl _, .refl _⟩ | exact ⟨.refl _, _, rfl⟩ | exact ⟨_, rfl⟩ | exact ⟨.refl _, [], by simp⟩ | exact ⟨[], by simp⟩
      · have p1 : moreP a b n = false := by simp [moreP, hgt]
        have p2 : lessP a b n = true := by simp [lessP, hgt]
        simp (maxSteps := 2000000) only [go_sem, reduceIte, Nat.reduceEqDiff, Nat.reduceAdd, Nat.reduceLT, Nat.reduceLeDiff, Nat.reduceBEq, Int.reduceLT, Int.reduceLE, Int.reduceToNat, lk8, ints, rgs, hbk, vI, csC, trC, hlt2', hlt3', ga, gb, iD, nn, hgt, d0, g3, g4, hr2, he3', hlt4', hlt5', rgD, rowR, intsC_len, setMany_ints, Nat.mul_one, selL_len, sb1, y0, y1, y2, y3, List.tail_cons, w5]
        have e1 := selL_set c.l hln p2
        have e2 := selL_set (c.e 2) hln p2
        have e3 := selL_keep (N := c.lamp.length) c.l p1
        have e4 := selL_keep (N := c.lamp.length) (c.e 2) p1
        refine ⟨by first | kernel_rfl | exact pairsOk_ord (by kernel_rfl), n + 1, hlt2, m2, ?_⟩
        refine ent_weaken [] (by simp only [e1, e2, e3, e4, List.append_nil]) rfl (Nat.zero_le _) (by simp [hbk, AB.low, vI, intsC_low, csC, trC, C.lowL, C.low]) rfl ?_
        simp (maxSteps := 2000000) only [go_sem, reduceIte, Nat.reduceEqDiff, Nat.reduceAdd, Nat.reduceLT, lk8, ints, rgs, hbk, vI, csC, trC, e1, e2, e3, e4]
        all_goals first | exact .refl _ | exact ⟨.refl _, .refl _⟩ | exact ⟨.refl _, .refl _, .refl _⟩ | exact ⟨.refl _, _, rfl⟩ | exact ⟨_, rfl⟩ | exact ⟨.refl _, [], by simp⟩ | exact ⟨[], by simp⟩
    · have hlt2' : ¬ (n : Int) < a.length := by omega
      have en : n = c.lamp.length := by omega
      simp (maxSteps := 2000000) only [go_sem, lk8, hlt2']
      have zl := end_lo hc (a := a) (b := b) (by omega) hna (k := 2) (by decide) (p := lessP a b) (fun n _ => by simp [lessP])
      have zh := end_hi hc (a := a) (b := b) (by omega) hna (k := 2) (by decide) (p := moreP a b) (fun n _ => by simp [moreP])
      have zb1 := spLo_bound hc hs (k := 2) (by decide) (Nat.le_refl _)
      have zb2 := spHi_bound hc hs (k := 2) (by decide) (Nat.le_refl _)
      have hn4 : c.lamp.length ≤ 4096 := by omega
      refine stop_mk { slots := [(1, ints a), (2, ints b), (5, .c (.ptr 0 0)), (18, rgs dp), (21, I 2), (22, .c (.ptr 18 0)), (23, .c (.ptr 19 0)), (24, I n), (174, B false)], heap := hz c x (endT c 2 (lessP a b)) (endT c 2 (moreP a b)), marks := [] } ?_ ?_
      · rw [endT_2, endT_2]
        simp only [en, selL_all]
        refine Ent.trans (ent_gone 2) (Ent.trans (ent_gone 3) (Ent.trans (ent_gone 4) (Ent.trans (ent_gone 10) (Ent.trans (ent_gone 11) (Ent.trans (ent_gone 12) ?_)))))
        exact frz2 (fun _ _ _ => rfl) (fun _ _ _ => rfl) (fzS (by simp [fzNV, fzN, B, I, ints, rgs])) hn4 (selL_len _ _ _) (selL_len _ _ _) (selL_len _ _ _) (selL_len _ _ _) (selL_len _ _ _) (selL_len _ _ _) (selL_len _ _ _) (selL_len _ _ _)
      have o1 := (okTr_iff c _).2 (endT_ok hc 2 (lessP a b))
      have o2 := (okTr_iff c _).2 (endT_ok hc 2 (moreP a b))
      generalize endT c 2 (lessP a b) = lo at *
      generalize endT c 2 (moreP a b) = hi at *
      have q1 := numbers16 c lo a
      have q2 := numbers16 c lo b
      have q3 := numbers16 c hi a
      have q4 := numbers16 c hi b
      rw [numV_ok c1 o1] at q1
      rw [numV_ok c2 o1] at q2
      rw [numV_ok c1 o2] at q3
      rw [numV_ok c2 o2] at q4
      have s1 := seeL_at (pX lo) a (i := 2) (by decide)
      have s2 := seeL_at (pX lo) b (i := 2) (by decide)
      have s3 := seeL_at (pX hi) a (i := 2) (by decide)
      have s4 := seeL_at (pX hi) b (i := 2) (by decide)
      have u1 : (seeL (pX lo) a).length = 3 := rfl
      have u2 : (seeL (pX lo) b).length = 3 := rfl
      have u3 : (seeL (pX hi) a).length = 3 := rfl
      have u4 : (seeL (pX hi) b).length = 3 := rfl
      have z1 : wr .i64 (seeF (pX lo) a 2 - seeF (pX lo) b 2) = spLo c (lessL a b) 2 (lessL a b).length := by rw [zl]; exact wr_in (by omega)
      have z2 : wr .i64 (seeF (pX hi) a 2 - seeF (pX hi) b 2) = spHi c (lessL a b) 2 (lessL a b).length := by rw [zh]; clear z1; exact wr_in (by omega)
      generalize seeL (pX lo) a = p1 at *
      generalize seeL (pX lo) b = p2 at *
      generalize seeL (pX hi) a = p3 at *
      generalize seeL (pX hi) b = p4 at *
      generalize seeF (pX lo) a 2 = v1 at *
      generalize seeF (pX lo) b 2 = v2 at *
      generalize seeF (pX hi) a 2 = v3 at *
      generalize seeF (pX hi) b 2 = v4 at *
      generalize spLo c (lessL a b) 2 (lessL a b).length = e1 at *
      generalize spHi c (lessL a b) 2 (lessL a b).length = e2 at *
      simp (maxSteps := 2000000) only [go_sem, reduceIte, Nat.reduceEqDiff, Nat.reduceAdd, Nat.reduceBEq, lk8, ints, rgs, hz, csC, trC]
      refine aops_pure' (q1) rfl rfl (by first | exact wk_refls _ | (repeat constructor)) ?_
      simp (maxSteps := 2000000) only [go_sem, reduceIte, Nat.reduceEqDiff, Nat.reduceAdd, lk8, csC, trC]
      refine aops_pure' (q2) rfl rfl (by first | exact wk_refls _ | (repeat constructor)) ?_
      simp (maxSteps := 2000000) only [go_sem, reduceIte, Nat.reduceEqDiff, Nat.reduceAdd, lk8, csC, trC]
      refine aops_pure' (q3) rfl rfl (by first | exact wk_refls _ | (repeat constructor)) ?_
      simp (maxSteps := 2000000) only [go_sem, reduceIte, Nat.reduceEqDiff, Nat.reduceAdd, lk8, csC, trC]
      refine aops_pure' (q4) rfl rfl (by first | exact wk_refls _ | (repeat constructor)) ?_
      simp (maxSteps := 2000000) only [go_sem, reduceIte, Nat.reduceEqDiff, Nat.reduceAdd, Nat.reduceLeDiff, Nat.reduceBEq, Int.reduceLT, Int.reduceLE, Int.reduceToNat, lk8, ints, rgs, u1, u2, u3, u4, y0, y1, y2, y3, s1, s2, s3, s4, d2, rgD, iD, nn, l4, z1, z2, List.append_eq, List.cons_append, List.nil_append]
      refine dops_pure' (works15) rfl rfl (by first | exact wk_refls _ | (repeat constructor)) (by kernel_rfl) ?_
      simp (maxSteps := 2000000) only [go_sem, reduceIte, Nat.reduceEqDiff, Nat.reduceAdd, lk8]
end Go.Proofs.Ytjkpfojkkfopmaa
