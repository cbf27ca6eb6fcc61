/- Zones: draw. -/
import Derived.Test.YtfgdbeijjbijnaaGreatDoorHG22
set_option linter.unusedSimpArgs false
set_option linter.unusedVariables false
set_option linter.unusedSimpArgs false
set_option linter.unusedVariables false
set_option maxRecDepth 100000
namespace Go.Proofs.YtfgdbeijjbijnaaGreatDoor.Zo
open Go Go.Abs Go.Proofs
theorem aFE {l : La} {F G d : Nat → Int} {i : Nat} {v : Int} (h : i < 11) : (A1 l (ilv F G) d).set (4 + i * 2) (.d (.int .i64 v)) = A1 l (ilv (upd F i v) G) d := by
 rw [Qp (by omega), Nat.mul_comm, M6]
theorem aFF {l : La} {F G d : Nat → Int} {i : Nat} {v : Int} (h : i < 11) : (A1 l (ilv F G) d).set (4 + i * 2 + 1) (.d (.int .i64 v)) = A1 l (ilv F (upd G i v)) d := by
 rw [Nat.add_assoc, Qp (by omega), Nat.mul_comm, M7]
theorem Qr {l : La} {F G d : Nat → Int} {i : Nat} (h : i < 11) : (A1 l (ilv F G) d)[4 + i * 2]? = some (.d (.int .i64 (F i))) := by
 rw [aF9 (by omega), Nat.mul_comm, OF]
theorem Qs {l : La} {F G d : Nat → Int} {i : Nat} (h : i < 11) : (A1 l (ilv F G) d)[4 + i * 2 + 1]? = some (.d (.int .i64 (G i))) := by
 rw [Nat.add_assoc, aF9 (by omega), Nat.mul_comm, OG]
theorem aP5 {α : Type} {l : List α} {k : Nat} {x y : α} (hx : l[k]? = some x) (hy : l[k + 1]? = some y) : (l.drop k).take 2 = [x, y] := by
 have h1 := (List.getElem?_eq_some_iff.1 hx)
 have h2 := (List.getElem?_eq_some_iff.1 hy)
 obtain ⟨a1, a2⟩ := h1
 obtain ⟨b1, b2⟩ := h2
 rw [List.drop_eq_getElem_cons a1, List.drop_eq_getElem_cons b1, a2, b2]; rfl
theorem K3 {l : La} {F G d : Nat → Int} {i : Nat} (h : i < 11) : ((A1 l (ilv F G) d).drop (4 + i * 2)).take 2 = [.d (.int .i64 (F i)), .d (.int .i64 (G i))] := aP5 (Qr h) (Qs h)
theorem T9 {l : La} {a F G : Nat → Int} {i : Nat} {v : Int} (h : i < 91) : (A1 l a (ilv F G)).set (26 + i * 2) (.d (.int .i64 v)) = A1 l a (ilv (upd F i v) G) := by
 rw [Qq (by omega), Nat.mul_comm, M6]
theorem Ua {l : La} {a F G : Nat → Int} {i : Nat} {v : Int} (h : i < 91) : (A1 l a (ilv F G)).set (26 + i * 2 + 1) (.d (.int .i64 v)) = A1 l a (ilv F (upd G i v)) := by
 rw [Nat.add_assoc, Qq (by omega), Nat.mul_comm, M7]
theorem aDI {l : La} {a F G : Nat → Int} {i : Nat} (h : i < 91) : (A1 l a (ilv F G))[26 + i * 2]? = some (.d (.int .i64 (F i))) := by
 rw [aGa (by omega), Nat.mul_comm, OF]
theorem aDJ {l : La} {a F G : Nat → Int} {i : Nat} (h : i < 91) : (A1 l a (ilv F G))[26 + i * 2 + 1]? = some (.d (.int .i64 (G i))) := by
 rw [Nat.add_assoc, aGa (by omega), Nat.mul_comm, OG]
theorem OL (l : La) (a d : Nat → Int) : ((A1 l a d).drop 4).take 22 = Ac 22 a := by
 rw [A1, List.drop_append_of_le_length (by simp [laC])]
 rw [show (laC l).drop 4 = [] from rfl, List.nil_append, List.take_append_of_le_length (by rw [Ah]; exact Nat.le_refl _), List.take_of_length_le (by rw [Ah]; exact Nat.le_refl _)]
theorem FC (f g : Nat → Int) : ∀ l : List Nat, BZ ((l.map fun j => D.int .i64 (f j)).map C.d) ((l.map fun j => D.int .i64 (g j)).map C.d) = some (l.all fun k => decide (f k = g k))
 | [] => rfl
 | a :: l => by
  have ih := FC f g l
  simp only [List.map_cons, BZ, eqC, if_true, ih, List.all_cons]
theorem F2 (n : Nat) (f g : Nat → Int) : BZ (Ac n f) (Ac n g) = some (eqN n f g) := by rw [F9, F9]; exact FC f g _
theorem Nd (n : Nat) (f : Nat → Int) : (Ac n f).take n = Ac n f := List.take_of_length_le (by rw [Ah]; exact Nat.le_refl _)
theorem Vj (l : La) (a d : Nat → Int) : setMany (A1 l a d) 26 (List.replicate 91 [C.d (.int .i64 0), C.d (.int .i64 0)]).flatten = A1 l a (fun _ => 0) := by
 have e : (List.replicate 91 [C.d (.int .i64 0), C.d (.int .i64 0)]).flatten = Ac 182 (fun _ => 0) := by kernel_rfl
 have t1 : (laC l ++ (Ac 22 a ++ Ac 182 d)).take 26 = laC l ++ Ac 22 a := by rw [← List.append_assoc]; exact List.take_left' (by simp [laC, Ah])
 rw [e, Ca _ _ _ (by rw [Cm, Ah]; decide), spl, A1, t1, List.drop_eq_nil_of_le (by simp [laC, Ah]), List.append_nil, List.append_assoc]; rfl
theorem aDK (n : Nat) (f g : Nat → Int) : setMany (Ac n f) 0 (Ac n g) = Ac n g := by
 rw [Ca _ _ _ (by simp [Ah]), spl]
 simp [Ah, List.drop_eq_nil_of_le]
def slD : List (Nat × V) := [(1, .c (.ptr 2 0)), (2, .c (.ptr 3 0)), (16, .c (.fn (.func 377) [.ptr 4 0]))]
def HD (l : La) (b d : Nat → Int) (A Bd : Code) (st : LoopState) (F G : Nat → Int) : List AB :=
 [.cells (laC l), .cells (A1 l (ilv F G) d), .cells [.ptr 1 0], .cells (Ac 22 b), .cells [.ptr 1 0], .df, .lp { state := st, pend := none, slots := slD, nt := 133, ps := #[17, 18], assign := A, body := Bd, D := 5 }]
theorem aH3 (l : La) (b d : Nat → Int) (A Bd : Code) (st : LoopState) (F G : Nat → Int) : (HD l b d A Bd st F G).all (AB.low 7) = true := by
 simp only [HD, List.all_cons, List.all_nil, AB.low, E9, AH, laC_low, Bool.and_true, Bool.true_and]
 rfl
def H3 (l : La) (a d : Nat → Int) : List AB := [.cells (laC l), .cells (A1 l a d), .cells [.ptr 1 0]]
theorem K4 (l : La) (a d : Nat → Int) : (H3 l a d).all (AB.low 3) = true := by
 simp only [H3, List.all_cons, List.all_nil, AB.low, E9, laC_low, Bool.and_true, Bool.true_and]
 rfl
theorem aH4 (l : La) (a d : Nat → Int) : [AB.cells (laC l), .cells (A1 l a d)].all (AB.low 2) = true := by
 simp only [List.all_cons, List.all_nil, AB.low, E9, laC_low, Bool.and_true, Bool.true_and]
end Go.Proofs.YtfgdbeijjbijnaaGreatDoor.Zo
set_option linter.unusedSimpArgs false
set_option linter.unusedVariables false
set_option maxRecDepth 100000
namespace Go.Proofs.YtfgdbeijjbijnaaGreatDoor.Zo
open Go Go.Abs Go.Proofs
def BO : List (Nat × List Nat) := [(0, [1]), (1, [1, 2]), (2, [1, 2, 16]), (3, [1, 3]), (4, [1, 3, 4, 5]), (5, [1, 3, 4, 5]), (6, []), (7, [1, 62]), (8, [1]), (9, [1, 68]), (10, [1, 6, 70]), (11, [1, 6, 7]), (12, [1, 6, 7, 8]), (13, [1, 6, 7, 8, 77]), (14, [1, 6, 7, 8]), (15, [1, 6, 7, 8]), (16, [1, 106, 107, 108]), (17, [1, 106, 107, 108, 109]), (18, [1, 9, 10, 106, 107, 108]), (19, [1, 106, 107, 108]), (20, [1, 106, 107, 108])]
theorem BC : lookK BO 0 = some [1] ∧ lookK BO 1 = some [1, 2] ∧ lookK BO 2 = some [1, 2, 16] ∧ lookK BO 3 = some [1, 3] ∧ lookK BO 4 = some [1, 3, 4, 5] ∧ lookK BO 5 = some [1, 3, 4, 5] ∧ lookK BO 6 = some [] ∧ lookK BO 7 = some [1, 62] ∧ lookK BO 8 = some [1] ∧ lookK BO 9 = some [1, 68] ∧ lookK BO 10 = some [1, 6, 70] ∧ lookK BO 11 = some [1, 6, 7] ∧ lookK BO 12 = some [1, 6, 7, 8] ∧ lookK BO 13 = some [1, 6, 7, 8, 77] ∧ lookK BO 14 = some [1, 6, 7, 8] ∧ lookK BO 15 = some [1, 6, 7, 8] ∧ lookK BO 16 = some [1, 106, 107, 108] ∧ lookK BO 17 = some [1, 106, 107, 108, 109] ∧ lookK BO 18 = some [1, 9, 10, 106, 107, 108] ∧ lookK BO 19 = some [1, 106, 107, 108] ∧ lookK BO 20 = some [1, 106, 107, 108] := ⟨rfl, rfl, rfl, rfl, rfl, rfl, rfl, rfl, rfl, rfl, rfl, rfl, rfl, rfl, rfl, rfl, rfl, rfl, rfl, rfl, rfl⟩
theorem aDL (l : La) (i : Nat) (F G : Nat → Int) : ∃ h w : Nat, h ≤ i + 1 ∧ w ≤ i + 1 ∧ Fi l i = [.d (.int .i64 h), .d (.int .i64 w)] ∧ BN (da l) F (i + 1) = upd F h (max (F h) (F w)) ∧ C5 (da l) G (i + 1) = upd G w (min (G w) (G h))
  ∧ (∀ f : Nat → Int, (if da l (i + 1) then f (i + 1) else f i) = f w) ∧ ∀ f : Nat → Int, (if da l (i + 1) then f i else f (i + 1)) = f h := by
 have hda : da l (i + 1) = gB l.fa i := rfl
 cases hf : gB l.fa i with
 | true => exact ⟨i, i + 1, by omega, by omega, by unfold Fi; rw [hf]; rfl, by unfold BN; rw [hda, hf]; rfl, by unfold C5; rw [hda, hf]; rfl, fun f => by rw [hda, hf]; rfl, fun f => by rw [hda, hf]; rfl⟩
 | false => exact ⟨i + 1, i, by omega, by omega, by unfold Fi; rw [hf]; rfl, by unfold BN; rw [hda, hf]; rfl, by unfold C5; rw [hda, hf]; rfl, fun f => by rw [hda, hf]; rfl, fun f => by rw [hda, hf]; rfl⟩
def slG : List (Nat × V) := [(1, .c (.ptr 2 0)), (68, .c (.fn (.func 377) [.ptr 3 0]))]
def HG (l : La) (a : Nat → Int) (A Bd : Code) (st : LoopState) (F G : Nat → Int) : List AB :=
 [.cells (laC l), .cells (A1 l a (ilv F G)), .cells [.ptr 1 0], .cells [.ptr 1 0], .df, .lp { state := st, pend := none, slots := slG, nt := 133, ps := #[69, 70], assign := A, body := Bd, D := 4 }]
theorem aH5 (l : La) (a : Nat → Int) (A Bd : Code) (st : LoopState) (F G : Nat → Int) : (HG l a A Bd st F G).all (AB.low 6) = true := by
 simp only [HG, List.all_cons, List.all_nil, AB.low, E9, laC_low, Bool.and_true, Bool.true_and]
 rfl
theorem aFG (l : La) (a : Nat → Int) (A Bd : Code) (st : LoopState) (F G : Nat → Int) (h w : Nat) : (HG l a A Bd st F G ++ [AB.cells [.d (.int .i64 h), .d (.int .i64 w)]]).all (AB.low 7) = true := by
 simp only [HG, List.cons_append, List.nil_append, List.all_cons, List.all_nil, AB.low, E9, laC_low, Bool.and_true, Bool.true_and]
 rfl
theorem Ub (l : La) (a : Nat → Int) (A Bd : Code) (st : LoopState) (F G : Nat → Int) (h w x y : Nat) : (HG l a A Bd st F G ++ [AB.cells [.d (.int .i64 h), .d (.int .i64 w)], AB.cells [.d (.int .i64 h), .d (.int .i64 w)], AB.cells [.d (.int .i64 x), .d (.int .i64 y)]]).all (AB.low 9) = true := by
 simp only [HG, List.cons_append, List.nil_append, List.all_cons, List.all_nil, AB.low, E9, laC_low, Bool.and_true, Bool.true_and]
 rfl
theorem aFH (l : La) (b d : Nat → Int) (A Bd : Code) (st : LoopState) (F G : Nat → Int) (h w : Nat) : (HD l b d A Bd st F G ++ [AB.cells [.d (.int .i64 h), .d (.int .i64 w)]]).all (AB.low 8) = true := by
 simp only [HD, List.cons_append, List.nil_append, List.all_cons, List.all_nil, AB.low, E9, AH, laC_low, Bool.and_true, Bool.true_and]
 rfl
set_option maxHeartbeats 8000000 in
theorem aH6 (l : La) (ok : Bc l) : Ae Tryz.prog 236 [.c (.ptr 1 0)] [.cells (laC l), .cells (A1 l (ilv (lis l) (his l)) (fun _ => 0))]
  (one (.tup []) [.cells (laC l), .cells (A1 l (ilv (aL l) (aH l)) (ilv (cut l.we.length (bl l)) (cut l.we.length (bh l))))]) := by
 refine Ae.drop2 (Nat.le_refl _) rfl (aH4 _ _ _) ?_
 refine acall_fitE (bad := [4, 5, 6, 15, 19, 10008]) (kp := BO) (X := tx) (nt := 133) (rs := []) Tryz.func236 rfl rfl rfl rfl mo (by kernel_rfl) (fun hf => ?_)
 have m11 := ok.m11
 have m2 := ok.m2
 have hfa := ok.fa
 simp (maxSteps := 2000000) only [go_sem, reduceIte, Nat.reduceEqDiff, Nat.reduceAdd, Nat.reduceBEq, BC]
 refine goE_loop (bad := [4, 5, 6, 15, 19, 10008]) (kp := BO) (fun r : Nat => { slots := [(1, .c (.ptr 2 0))], heap := H3 l (ilv (rL l r) (rH l r)) (fun _ => 0), marks := [] }) (fun _ => True) (fun r => Jw l r l.an.length) 0 mo (by kernel_rfl) ?_ trivial ?_
 ·refine ent_weaken [] rfl rfl (show 2 ≤ 3 by decide) (K4 _ _ _) rfl ?_
  simp (maxSteps := 2000000) only [go_sem, reduceIte, BC]
  all_goals first | exact .refl _ | exact ⟨.refl _, .refl _⟩ | exact ⟨.refl _, .refl _, .refl _⟩ | exact ⟨.refl _, _, rfl⟩ | exact ⟨_, rfl⟩ | exact ⟨.refl _, [], by simp⟩ | exact ⟨[], by simp⟩
 rintro r -
 have hmore := Vg (l := l) (r := r) ok
 have hdone := Vh (l := l) (r := r) ok
 obtain ⟨SL, hL0, hLs, hLe⟩ : ∃ SL : Nat → Nat → Int, rL l r = SL 0 ∧ (∀ i, SL (i + 1) = BN (da l) (SL i) (i + 1)) ∧ rL l (r + 1) = SL l.fa.length :=
  ⟨fun i => AP (da l) (rL l r) i, rfl, fun _ => rfl, by rw [show l.fa.length = l.an.length - 1 by omega]; rfl⟩
 obtain ⟨SH, hH0, hHs, hHe⟩ : ∃ SH : Nat → Nat → Int, rH l r = SH 0 ∧ (∀ i, SH (i + 1) = C5 (da l) (SH i) (i + 1)) ∧ rH l (r + 1) = SH l.fa.length :=
  ⟨fun i => Cr (da l) (rH l r) i, rfl, fun _ => rfl, by rw [show l.fa.length = l.an.length - 1 by omega]; rfl⟩
 rw [hL0, hH0]
 rw [hL0, hH0, hLe, hHe] at hmore hdone
 have hz : ∀ g, setMany (List.replicate 22 (C.d (D.int .i64 0))) 0 (Ac 22 g) = Ac 22 g := fun g => by rw [Ir, aDK]
 simp (maxSteps := 2000000) only [go_sem, BC] at hz
 have hg := aDG [.cells (laC l), .cells (A1 l (ilv (SL 0) (SH 0)) (fun _ => 0)), .cells [.ptr 1 0], .cells (Ac 22 (ilv (SL 0) (SH 0)))] 1 (show 1 < 4 by decide)
 unfold laC at hg
 simp (maxSteps := 2000000) only [go_sem, Nat.reduceAdd, BC, List.cons_append, List.nil_append] at hg
 simp (maxSteps := 2000000) only [go_sem, reduceIte, Nat.reduceEqDiff, Nat.reduceAdd, Nat.reduceLeDiff, Nat.reduceBEq, BC, H3, laC, Cm, OL, Ah, hz]
 refine Az (hg) rfl rfl (by first | exact wk_refls _ | (repeat constructor)) ?_
 simp (maxSteps := 2000000) only [go_sem, reduceIte, Nat.reduceEqDiff, BC]
 refine Ku (fun A Bd hA hB => ?_)
 refine D8 (gf := 377) (caps := [.ptr 4 0]) rfl rfl (show 2 ≤ 5 by decide) rfl ?_
 refine Ae.mono (aDH 6 4 1 l ok (fun i => ilv (SL i) (SH i)) (fun _ _ => 0) (fun i => HD l (ilv (SL 0) (SH 0)) (fun _ => 0) A Bd .ready (SL i) (SH i)) (fun k hk => ⟨aH3 _ _ _ _ _ _ _ _, rfl⟩) (show 6 < 7 by decide) (fun _ _ => rfl) (fun _ _ => rfl) (fun i hi => ?_)) ?_
 ·show YCs Tryz.prog 6 (HD l (ilv (SL 0) (SH 0)) (fun _ => 0) A Bd .ready (SL i) (SH i) ++ [.cells (Fi l i)]) [.agg (Fi l i), .agg (gdC l i)] (one (B true) (HD l (ilv (SL 0) (SH 0)) (fun _ => 0) A Bd .ready (SL (i + 1)) (SH (i + 1)) ++ [.cells (Fi l i)]))
  rw [hLs i, hHs i]
  generalize SL i = F at *
  generalize SH i = G at *
  generalize ilv (SL 0) (SH 0) = b0 at *
  obtain ⟨h, w, hh, hw, eg, eL2, eH2, _, _⟩ := aDL l i F G
  rw [eL2, eH2, eg]
  have h11 : h < 11 := by omega
  have w11 : w < 11 := by omega
  have h11' : (h : Int) < 11 := by omega
  have w11' : (w : Int) < 11 := by omega
  have c1 : decide (4 + h * 2 + 2 ≤ 208) = true := by simp; omega
  have c1' : decide (4 + h * 2 ≤ 206) = true := by simp; omega
  have c2 : decide (4 + w * 2 + 2 ≤ 208) = true := by simp; omega
  have c2' : decide (4 + w * 2 ≤ 206) = true := by simp; omega
  have c3 : decide (4 + h * 2 + 1 ≤ 208) = true := by simp; omega
  have c3' : decide (4 + h * 2 ≤ 207) = true := by simp; omega
  have c4 : decide (4 + w * 2 + 1 + 1 ≤ 208) = true := by simp; omega
  have c4' : decide (4 + w * 2 + 1 ≤ 207) = true := by simp; omega
  have c4'' : decide (4 + w * 2 ≤ 206) = true := by simp; omega
  have r1 := K3 (l := l) (F := F) (G := G) (d := fun _ => 0) h11
  have r2 := K3 (l := l) (F := F) (G := G) (d := fun _ => 0) w11
  have s1 := fun v => aFE (l := l) (F := F) (G := G) (d := fun _ => 0) (v := v) h11
  have s2 := fun F v => aFF (l := l) (F := F) (G := G) (d := fun _ => 0) (v := v) w11
  have lowg := aFH l b0 (fun _ => 0) A Bd .busy (upd F h (max (F h) (F w))) (upd G w (min (G w) (G h))) h w
  refine Tq (bad := [4, 5, 6, 15, 19, 10008]) (kp := BO) (X := tx) mo rfl hA hB rfl rfl (by kernel_rfl) (by kernel_rfl) (fun lp => ?_)
  simp (maxSteps := 2000000) only [go_sem, reduceIte, Nat.reduceEqDiff, Nat.reduceAdd, Nat.reduceLeDiff, Nat.reduceBEq, BC, DD, HD, slD, gdC, List.cons_append, List.nil_append]
  refine ⟨_, rfl, ?_⟩
  simp (maxSteps := 2000000) only [go_sem, reduceIte, Nat.reduceEqDiff, Nat.reduceAdd, Nat.reduceLT, Nat.reduceLeDiff, Nat.reduceBEq, BC, DD, HD, slD, gdC, List.cons_append, List.nil_append, nn, h11', w11', Int.toNat_natCast, Cm, r1, r2, s1, s2, c1, c1', c2, c2', c3, c3', c4, c4', c4'', HK, HL]
  refine ⟨AF (by kernel_rfl), AF (by kernel_rfl), AF (by kernel_rfl), ?_⟩
  exact ⟨{ slots := [], heap := HD l b0 (fun _ => 0) A Bd .busy (upd F h (max (F h) (F w))) (upd G w (min (G w) (G h))) ++ [AB.cells [.d (.int .i64 h), .d (.int .i64 w)]], marks := [] }, ent_weaken [AB.cells [.d (.int .i64 h), .d (.int .i64 w)], AB.cells [.d (.int .i64 (F h)), .d (.int .i64 (G h))], AB.cells [.d (.int .i64 (F w)), .d (.int .i64 (G w))]] rfl rfl (Nat.le_refl _) lowg rfl trivial, _, rfl, rfl, rfl⟩
 ·rintro _ H2 rfl
  refine ⟨fun h => (by cases h), rfl, rfl, ?_⟩
  have hp := fun (h : eqN 22 (ilv (SL l.fa.length) (SH l.fa.length)) (ilv (SL 0) (SH 0)) = true) => hdone h
  have hn := fun (h : eqN 22 (ilv (SL l.fa.length) (SH l.fa.length)) (ilv (SL 0) (SH 0)) = false) => hmore h
  cases he : eqN 22 (ilv (SL l.fa.length) (SH l.fa.length)) (ilv (SL 0) (SH 0)) with
  | false =>
   simp (maxSteps := 2000000) only [go_sem, reduceIte, Nat.reduceEqDiff, Nat.reduceAdd, Nat.reduceLeDiff, Nat.reduceBEq, BC, HD, slD, laC, Cm, OL, Ah, Nd, F2, he]
   refine ⟨r + 1, hn he, ?_⟩
   refine ent_weaken [.cells (Ac 22 (ilv (SL 0) (SH 0))), .cells [.ptr 1 0], .gone, .lp { state := .exhausted, pend := none, slots := slD, nt := 133, ps := #[17, 18], assign := A, body := Bd, D := 5 }] (by rw [hLe, hHe]; rfl) rfl (show 2 ≤ 3 by decide) (K4 _ _ _) rfl ?_
   simp (maxSteps := 2000000) only [go_sem, reduceIte, Nat.reduceEqDiff, Nat.reduceAdd, Nat.reduceLT, BC]
   all_goals first | exact .refl _ | exact ⟨.refl _, .refl _⟩ | exact ⟨.refl _, .refl _, .refl _⟩ | exact ⟨.refl _, _, rfl⟩ | exact ⟨_, rfl⟩ | exact ⟨.refl _, [], by simp⟩ | exact ⟨[], by simp⟩
  | true =>
   obtain ⟨eL, eH⟩ := hp he
   have hcl := Vj l (ilv (SL l.fa.length) (SH l.fa.length)) (fun _ => 0)
   simp (maxSteps := 2000000) only [go_sem, Nat.reduceAdd, BC] at hcl
   simp (maxSteps := 2000000) only [go_sem, reduceIte, Nat.reduceEqDiff, Nat.reduceAdd, Nat.reduceLeDiff, Nat.reduceBEq, Nat.reduceMul, BC, HD, slD, laC, Cm, OL, Ah, Nd, F2, he, hcl]
   rw [eL, eH]
   clear hmore hdone hp hn he hz hg hcl
   refine ⟨by decide, ?_⟩
   have e0 : (fun _ => 0 : Nat → Int) = ilv (dkF l (spL l (alo l)) (P l 0)) (dkF l (spH l (ahi l)) (P l 0)) := by
    rw [(lay ok).p0, Qm, Qm]
    funext j; unfold ilv; split <;> rfl
   refine stop_mk { slots := [(1, .c (.ptr 2 0))], heap := H3 l (ilv (aL l) (aH l)) (ilv (dkF l (spL l (alo l)) (P l 0)) (dkF l (spH l (ahi l)) (P l 0))), marks := [] } ?_ ?_
   ·refine ent_weaken [.cells (Ac 22 (ilv (SL 0) (SH 0))), .cells [.ptr 1 0], .gone, .lp { state := .exhausted, pend := none, slots := slD, nt := 133, ps := #[17, 18], assign := A, body := Bd, D := 5 }] (by rw [← e0]; rfl) rfl (show 2 ≤ 3 by decide) (K4 _ _ _) rfl ?_
    simp (maxSteps := 2000000) only [go_sem, reduceIte, BC]
    all_goals first | exact .refl _ | exact ⟨.refl _, .refl _⟩ | exact ⟨.refl _, .refl _, .refl _⟩ | exact ⟨.refl _, _, rfl⟩ | exact ⟨_, rfl⟩ | exact ⟨.refl _, [], by simp⟩ | exact ⟨[], by simp⟩
   clear e0 hLs hHs hLe hHe hL0 hH0 eL eH
   obtain ⟨DL, d0, dS, dE⟩ : ∃ DL : Nat → Nat → Int, dkF l (spL l (alo l)) (P l 0) = DL 0 ∧ (∀ i, DL i = dkF l (spL l (alo l)) (P l i)) ∧ DL l.fa.length = dkF l (spL l (alo l)) l.we.length := ⟨fun i => dkF l (spL l (alo l)) (P l i), rfl, fun _ => rfl, by
    have hpn := (lay ok).pn
    have ha := Dg ok (i := l.an.length - 1) (by omega)
    rw [show l.fa.length = l.an.length - 1 by omega]
    show dkF l (spL l (alo l)) (P l (l.an.length - 1)) = _
    rw [HJ (k := P l (l.an.length - 1)) (by rw [ha]; omega), hpn]⟩
   obtain ⟨DH, g0, gS, gE⟩ : ∃ DH : Nat → Nat → Int, dkF l (spH l (ahi l)) (P l 0) = DH 0 ∧ (∀ i, DH i = dkF l (spH l (ahi l)) (P l i)) ∧ DH l.fa.length = dkF l (spH l (ahi l)) l.we.length := ⟨fun i => dkF l (spH l (ahi l)) (P l i), rfl, fun _ => rfl, by
    have hpn := (lay ok).pn
    have ha := Dg ok (i := l.an.length - 1) (by omega)
    rw [show l.fa.length = l.an.length - 1 by omega]
    show dkF l (spH l (ahi l)) (P l (l.an.length - 1)) = _
    rw [HJ (k := P l (l.an.length - 1)) (by rw [ha]; omega), hpn]⟩
   rw [d0, g0]
   have hg2 := aDG [.cells (laC l), .cells (A1 l (ilv (aL l) (aH l)) (ilv (DL 0) (DH 0))), .cells [.ptr 1 0]] 1 (show 1 < 3 by decide)
   unfold laC at hg2
   simp (maxSteps := 2000000) only [go_sem, Nat.reduceAdd, BC, List.cons_append, List.nil_append] at hg2
   simp (maxSteps := 2000000) only [go_sem, reduceIte, Nat.reduceEqDiff, Nat.reduceAdd, Nat.reduceBEq, BC, H3, laC]
   refine Az (hg2) rfl rfl (by first | exact wk_refls _ | (repeat constructor)) ?_
   simp (maxSteps := 2000000) only [go_sem, reduceIte, Nat.reduceEqDiff, BC]
   refine Ku (fun A2 B2 hA2 hB2 => ?_)
   refine D8 (gf := 377) (caps := [.ptr 3 0]) rfl rfl (show 2 ≤ 4 by decide) rfl ?_
   refine Ae.mono (aDH 5 3 1 l ok (fun _ => ilv (aL l) (aH l)) (fun i => ilv (DL i) (DH i)) (fun i => HG l (ilv (aL l) (aH l)) A2 B2 .ready (DL i) (DH i)) (fun k hk => ⟨aH5 _ _ _ _ _ _ _, rfl⟩) (show 5 < 6 by decide) (fun _ _ => rfl) (fun _ _ => rfl) (fun i hi => ?_)) ?_
   ·show YCs Tryz.prog 5 (HG l (ilv (aL l) (aH l)) A2 B2 .ready (DL i) (DH i) ++ [.cells (Fi l i)]) [.agg (Fi l i), .agg (gdC l i)] (one (B true) (HG l (ilv (aL l) (aH l)) A2 B2 .ready (DL (i + 1)) (DH (i + 1)) ++ [.cells (Fi l i)]))
    obtain ⟨h, w, hh, hw, eg, _, _, eLo, eHi⟩ := aDL l i (fun _ => 0) (fun _ => 0)
    have hPn := (lay ok).lt (i := i + 1) (by omega)
    have hup := (lay ok).up i (by omega)
    have n91 := ok.n91.2
    have hai := Dg ok (i := i) (by omega)
    rw [eg, dS i, gS i, dS (i + 1), gS (i + 1), HJ (q := spL l (alo l)) (k := P l i) (by rw [hai]; omega), HJ (q := spH l (ahi l)) (k := P l i) (by rw [hai]; omega)]
    have vL : ∀ k, P l i < k → k < P l (i + 1) → upd (dkF l (spL l (alo l)) k) k (aL l w) = dkF l (spL l (alo l)) (k + 1) := fun k q1 q2 => by
     obtain ⟨e1, e2⟩ := HI ok (by omega) q1 q2
     rw [← T5 (q := spL l (alo l)) (k := k) (by rw [e1]; omega)]
     congr 1
     unfold spL
     rw [if_neg (by rw [e1]; omega), e2, eLo]
     unfold aL; rw [if_pos (by omega)]
    have vH : ∀ k, P l i < k → k < P l (i + 1) → upd (dkF l (spH l (ahi l)) k) k (aH l h) = dkF l (spH l (ahi l)) (k + 1) := fun k q1 q2 => by
     obtain ⟨e1, e2⟩ := HI ok (by omega) q1 q2
     rw [← T5 (q := spH l (ahi l)) (k := k) (by rw [e1]; omega)]
     congr 1
     unfold spH
     rw [if_neg (by rw [e1]; omega), e2, eHi]
     unfold aH; rw [if_pos (by omega)]
    have h11 : h < 11 := by omega
    have w11 : w < 11 := by omega
    have h11' : (h : Int) < 11 := by omega
    have w11' : (w : Int) < 11 := by omega
    have hle : decide (4 + w * 2 + 1 ≤ 208) = true := by simp; omega
    have hle2 : decide (4 + w * 2 ≤ 207) = true := by simp; omega
    have hle3 : decide (4 + h * 2 + 1 + 1 ≤ 208) = true := by simp; omega
    have hle4 : decide (4 + h * 2 + 1 ≤ 207) = true := by simp; omega
    have hle5 : decide (4 + h * 2 ≤ 206) = true := by simp; omega
    generalize dkF l (spL l (alo l)) = EL at *
    generalize dkF l (spH l (ahi l)) = EH at *
    generalize aL l = al at *
    generalize aH l = ah at *
    unfold gdC
    generalize hp1 : P l i = a at *
    generalize hp2 : P l (i + 1) = b at *
    have wa := An (i := a) (n := 1000) (by omega) (by decide)
    refine Tq (bad := [4, 5, 6, 15, 19, 10008]) (kp := BO) (X := tx) mo rfl hA2 hB2 rfl rfl (by kernel_rfl) (by kernel_rfl) (fun lp => ?_)
    simp (maxSteps := 2000000) only [go_sem, reduceIte, Nat.reduceEqDiff, Nat.reduceAdd, Nat.reduceBEq, Int.reduceLT, Int.reduceLE, Int.reduceToNat, BC, DD, HG, slG, List.cons_append, List.nil_append]
    refine ⟨_, rfl, ?_⟩
    simp (maxSteps := 2000000) only [go_sem, reduceIte, Nat.reduceEqDiff, Nat.reduceAdd, Nat.reduceLeDiff, Nat.reduceMul, BC, DD, HG, slG, List.cons_append, List.nil_append, wa]
    clear wa
    refine goE_loop (bad := [4, 5, 6, 15, 19, 10008]) (kp := BO) (fun k : Nat => { slots := [(1, .c (.ptr 2 0)), (6, .c (.ptr 7 0)), (7, .c (.ptr 8 0)), (8, I k)], heap := HG l (ilv al ah) A2 B2 .busy (EL k) (EH k) ++ [AB.cells [.d (.int .i64 h), .d (.int .i64 w)], AB.cells [.d (.int .i64 h), .d (.int .i64 w)], AB.cells [.d (.int .i64 a), .d (.int .i64 b)]], marks := [] }) (fun k => a < k ∧ k ≤ b) (fun k => b - k) (a + 1) mo (by kernel_rfl) ?_ ⟨Nat.lt_succ_self a, hup⟩ ?_
    ·refine ent_weaken [] rfl rfl (show 7 ≤ 9 by decide) (Ub _ _ _ _ _ _ _ _ _ _ _) rfl ?_
     simp (maxSteps := 2000000) only [go_sem, reduceIte, Nat.reduceEqDiff, Nat.reduceAdd, Nat.reduceLT, BC, HG, slG, List.cons_append, List.nil_append]
     all_goals first | exact .refl _ | exact ⟨.refl _, .refl _⟩ | exact ⟨.refl _, .refl _, .refl _⟩ | exact ⟨.refl _, _, rfl⟩ | exact ⟨_, rfl⟩ | exact ⟨.refl _, [], by simp⟩ | exact ⟨[], by simp⟩
    rintro k ⟨hk1, hk2⟩
    simp (maxSteps := 2000000) only [go_sem, reduceIte, Nat.reduceEqDiff, Nat.reduceAdd, Nat.reduceBEq, Nat.reduceMul, Int.reduceLT, Int.reduceLE, Int.reduceToNat, BC, HG, slG, List.cons_append, List.nil_append]
    by_cases hlt : k < b
    ·have hlt' : (k : Int) < b := by omega
     have k91 : k < 91 := by omega
     have k91' : (k : Int) < 91 := by omega
     have m1 : b - (k + 1) < b - k := by omega
     have q1 : a < k + 1 := by omega
     have d1 : decide (26 + k * 2 + 2 ≤ 208) = true := by simp; omega
     have d2 : decide (26 + k * 2 ≤ 206) = true := by simp; omega
     have gw := Qr (l := l) (F := al) (G := ah) (d := ilv (EL k) (EH k)) w11
     have gh := Qs (l := l) (F := al) (G := ah) (d := ilv (EL k) (EH k)) h11
     have s1 := fun v => T9 (l := l) (a := ilv al ah) (F := EL k) (G := EH k) (v := v) k91
     have s2 := fun F v => Ua (l := l) (a := ilv al ah) (F := F) (G := EH k) (v := v) k91
     have u1 := vL k hk1 hlt
     have u2 := vH k hk1 hlt
     have w7 := An (i := k) (n := 1000) (by omega) (by decide)
     simp (maxSteps := 2000000) only [go_sem, reduceIte, Nat.reduceEqDiff, Nat.reduceAdd, Nat.reduceLT, Nat.reduceLeDiff, Nat.reduceBEq, BC, hlt', nn, w11', h11', k91', Int.toNat_natCast, Cm, hle, hle2, hle3, hle4, hle5, gw, gh, s1, s2, u1, u2, d1, d2, w7]
     refine ⟨AF (by kernel_rfl), k + 1, ⟨q1, hlt⟩, m1, ?_⟩
     refine ent_weaken [] rfl rfl (show 7 ≤ 9 by decide) (Ub _ _ _ _ _ _ _ _ _ _ _) rfl ?_
     simp (maxSteps := 2000000) only [go_sem, reduceIte, Nat.reduceEqDiff, Nat.reduceAdd, Nat.reduceLT, BC, HG, slG, List.cons_append, List.nil_append]
     all_goals first | exact .refl _ | exact ⟨.refl _, .refl _⟩ | exact ⟨.refl _, .refl _, .refl _⟩ | exact ⟨.refl _, _, rfl⟩ | exact ⟨_, rfl⟩ | exact ⟨.refl _, [], by simp⟩ | exact ⟨[], by simp⟩
    ·have hlt' : ¬ (k : Int) < b := by omega
     have ek : k = b := by omega
     subst ek
     have lowg := aFG l (ilv al ah) A2 B2 .busy (EL k) (EH k) h w
     simp (maxSteps := 2000000) only [go_sem, reduceIte, Nat.reduceEqDiff, BC, hlt']
     exact ⟨{ slots := [], heap := HG l (ilv al ah) A2 B2 .busy (EL k) (EH k) ++ [AB.cells [.d (.int .i64 h), .d (.int .i64 w)]], marks := [] }, ent_weaken [AB.cells [.d (.int .i64 h), .d (.int .i64 w)], AB.cells [.d (.int .i64 a), .d (.int .i64 k)]] rfl rfl (Nat.le_refl _) lowg rfl trivial, _, rfl, rfl, rfl⟩
   ·rintro _ H2 rfl
    refine ⟨fun h => (by cases h), rfl, rfl, ?_⟩
    have f1 := aPW ok
    have f2 := aPX ok
    rw [dE, gE, T6 l (spL l (alo l)) (aL l), T6 l (spH l (ahi l)) (aH l)]
    have u1 := fun i (hi : i < l.an.length) => aDs ok (q := spL l (alo l)) (a := aL l) hi
    have u2 := fun i (hi : i < l.an.length) => aDs ok (q := spH l (ahi l)) (a := aH l) hi
    generalize eF l (spL l (alo l)) (aL l) = EL at *
    generalize eF l (spH l (ahi l)) (aH l) = EH at *
    generalize aL l = al at *
    generalize aH l = ah at *
    simp (maxSteps := 2000000) only [go_sem, reduceIte, Nat.reduceEqDiff, Nat.reduceAdd, Nat.reduceLeDiff, Nat.reduceBEq, BC, HG, slG, Cm, OK]
    refine goE_loop (bad := [4, 5, 6, 15, 19, 10008]) (kp := BO) (fun i : Nat => { slots := [(1, .c (.ptr 2 0)), (106, ints l.an), (107, I l.an.length), (108, I i)], heap := H3 l (ilv al ah) (ilv (EL i) (EH i)), marks := [] }) (fun i => i ≤ l.an.length) (fun i => l.an.length - i) 0 mo (by kernel_rfl) ?_ (Nat.zero_le _) ?_
    ·refine ent_weaken [.cells [.ptr 1 0], .gone, .lp { state := .exhausted, pend := none, slots := slG, nt := 133, ps := #[69, 70], assign := A2, body := B2, D := 4 }] rfl rfl (show 2 ≤ 3 by decide) (K4 _ _ _) rfl ?_
     simp (maxSteps := 2000000) only [go_sem, reduceIte, Nat.reduceEqDiff, BC, ints]
     all_goals first | exact .refl _ | exact ⟨.refl _, .refl _⟩ | exact ⟨.refl _, .refl _, .refl _⟩ | exact ⟨.refl _, _, rfl⟩ | exact ⟨_, rfl⟩ | exact ⟨.refl _, [], by simp⟩ | exact ⟨[], by simp⟩
    rintro i hi
    simp (maxSteps := 2000000) only [go_sem, reduceIte, Nat.reduceEqDiff, Nat.reduceAdd, Nat.reduceBEq, BC, H3, ints]
    by_cases hlt : i < l.an.length
    ·have hlt' : (i : Int) < l.an.length := by omega
     have p0 : (0 : Int) < l.an.length := by omega
     have i11 : i < 11 := by omega
     have i11' : (i : Int) < 11 := by omega
     have n91 := ok.n91.2
     have hPn := (lay ok).lt hlt
     have P91 : P l i < 91 := by omega
     have P91' : (P l i : Int) < 91 := by omega
     have a0 := gI_lt (l := l.an) (i := 0) (by omega)
     have a1 := gI_lt hlt
     have b0 := ok.a0 0 (by omega)
     have b1 := ok.a0 i hlt
     have d1 := ok.p hlt
     have m1 : l.an.length - (i + 1) < l.an.length - i := by omega
     have c1 : decide (4 + i * 2 + 2 ≤ 208) = true := by simp; omega
     have c1' : decide (4 + i * 2 ≤ 206) = true := by simp; omega
     have c2 : decide (26 + P l i * 2 + 2 ≤ 208) = true := by simp; omega
     have c2' : decide (26 + P l i * 2 ≤ 206) = true := by simp; omega
     have r1 := K3 (l := l) (F := al) (G := ah) (d := ilv (EL i) (EH i)) i11
     have s1 := fun v => T9 (l := l) (a := ilv al ah) (F := EL i) (G := EH i) (v := v) P91
     have s2 := fun F v => Ua (l := l) (a := ilv al ah) (F := F) (G := EH i) (v := v) P91
     have v1 := u1 i hlt
     have v2 := u2 i hlt
     have w1 : wr .i64 (gI l.an i - gI l.an 0) = (P l i : Int) := by rw [CO (by omega), d1]
     have w7 := An hlt (Nat.le_trans m11 (by decide))
     simp (maxSteps := 2000000) only [go_sem, reduceIte, Nat.reduceEqDiff, Nat.reduceAdd, Nat.reduceLeDiff, Nat.reduceBEq, Int.reduceLE, Int.reduceToNat, BC, hlt', nn, p0, a0, a1, iD, w1, P91', i11', Int.toNat_natCast, Cm, OK, c1, c1', c2, c2', r1, s1, s2, v1, v2, w7]
     refine ⟨AF (by kernel_rfl), i + 1, hlt, m1, ?_⟩
     refine ent_weaken [] rfl rfl (show 2 ≤ 3 by decide) (K4 _ _ _) rfl ?_
     simp (maxSteps := 2000000) only [go_sem, reduceIte, Nat.reduceEqDiff, Nat.reduceAdd, Nat.reduceLT, BC, ints]
     all_goals first | exact .refl _ | exact ⟨.refl _, .refl _⟩ | exact ⟨.refl _, .refl _, .refl _⟩ | exact ⟨.refl _, _, rfl⟩ | exact ⟨_, rfl⟩ | exact ⟨.refl _, [], by simp⟩ | exact ⟨[], by simp⟩
    ·have hlt' : ¬ (i : Int) < l.an.length := by omega
     have ei : i = l.an.length := by omega
     subst ei
     simp (maxSteps := 2000000) only [go_sem, reduceIte, BC, hlt', f1, f2]
     exact ⟨[.cells [.ptr 1 0]], rfl⟩
end Go.Proofs.YtfgdbeijjbijnaaGreatDoor.Zo
set_option linter.unusedSimpArgs false
set_option linter.unusedVariables false
set_option maxRecDepth 100000
namespace Go.Proofs.YtfgdbeijjbijnaaGreatDoor.Zo
open Go Go.Abs Go.Proofs
def Du : List (Nat × List Nat) := [(0, [1]), (1, [1, 3]), (2, [1, 3, 15]), (3, [2]), (4, [1, 3, 4]), (5, [1, 3, 4, 18]), (6, [1, 3, 4]), (7, [1, 3, 4, 52]), (8, [2]), (9, [1, 3, 83]), (10, [2]), (11, [1, 3, 5]), (12, [1, 3, 5, 86]), (13, [1, 3, 5]), (14, [1, 3, 5, 95]), (15, [2]), (16, [1, 6]), (17, [1, 6, 100]), (18, [1, 6]), (19, [1, 6, 116]), (20, [2]), (21, [2])]
theorem CQ : lookK Du 0 = some [1] ∧ lookK Du 1 = some [1, 3] ∧ lookK Du 2 = some [1, 3, 15] ∧ lookK Du 3 = some [2] ∧ lookK Du 4 = some [1, 3, 4] ∧ lookK Du 5 = some [1, 3, 4, 18] ∧ lookK Du 6 = some [1, 3, 4] ∧ lookK Du 7 = some [1, 3, 4, 52] ∧ lookK Du 8 = some [2] ∧ lookK Du 9 = some [1, 3, 83] ∧ lookK Du 10 = some [2] ∧ lookK Du 11 = some [1, 3, 5] ∧ lookK Du 12 = some [1, 3, 5, 86] ∧ lookK Du 13 = some [1, 3, 5] ∧ lookK Du 14 = some [1, 3, 5, 95] ∧ lookK Du 15 = some [2] ∧ lookK Du 16 = some [1, 6] ∧ lookK Du 17 = some [1, 6, 100] ∧ lookK Du 18 = some [1, 6] ∧ lookK Du 19 = some [1, 6, 116] ∧ lookK Du 20 = some [2] ∧ lookK Du 21 = some [2] := ⟨rfl, rfl, rfl, rfl, rfl, rfl, rfl, rfl, rfl, rfl, rfl, rfl, rfl, rfl, rfl, rfl, rfl, rfl, rfl, rfl, rfl, rfl⟩
theorem Oo (j : Nat) (h : j < 1000) : wr .i64 (((j + 1 : Nat) : Int) - 1) = (j : Int) := by rw [CO (by omega)]; omega
theorem JL {n : Nat} (h : 1 ≤ n) (h2 : n ≤ 1000) : wr .i64 ((n : Int) - 1) = ((n - 1 : Nat) : Int) := by rw [CO (by omega)]; omega
set_option maxHeartbeats 4000000 in
theorem aH7 (l : La) : BA Tryz.prog 62 [laV l] (I (CF l)) := by
 refine pure_wkE (bad := []) (kp := Du) (X := tx) (nt := 117) (rs := [.tmp 2]) Tryz.func62 rfl rfl rfl rfl mo (by kernel_rfl) rfl rfl (fun hf => ?_)
 by_cases h1 : l.an.length < 2
 ·have h1' : (l.an.length : Int) < 2 := by omega
  simp (maxSteps := 2000000) only [go_sem, reduceIte, Nat.reduceEqDiff, Nat.reduceAdd, Nat.reduceLeDiff, Nat.reduceBEq, CQ, laV, laC, h1', F8 (.inl h1)]
 have h1' : ¬ (l.an.length : Int) < 2 := by omega
 by_cases h2 : 10 < l.an.length
 ·have h2' : (10 : Int) < l.an.length := by omega
  simp (maxSteps := 2000000) only [go_sem, reduceIte, Nat.reduceEqDiff, Nat.reduceAdd, Nat.reduceLeDiff, Nat.reduceBEq, CQ, laV, laC, h1', h2', F8 (.inr h2)]
 have h2' : ¬ (10 : Int) < l.an.length := by omega
 simp (maxSteps := 2000000) only [go_sem, reduceIte, Nat.reduceEqDiff, Nat.reduceAdd, Nat.reduceLeDiff, Nat.reduceBEq, CQ, laV, laC, h1', h2']
 refine goE_loop (bad := []) (kp := Du) (fun i : Nat => { slots := [(1, .c (.ptr 0 0)), (3, I l.an.length), (4, I i)], heap := [.cells (laC l)], marks := [] }) (fun i => i ≤ l.an.length ∧ ∀ j, j < i → Ds l.an j = false) (fun i => l.an.length - i) 0 mo (by kernel_rfl) ?_ ⟨Nat.zero_le _, by intro j h; omega⟩ ?_
 ·refine ent_weaken [] rfl rfl (Nat.zero_le _) rfl rfl ?_
  simp (maxSteps := 2000000) only [go_sem, reduceIte, Nat.reduceEqDiff, Nat.reduceLT, CQ, laC]
  all_goals first | exact .refl _ | exact ⟨.refl _, .refl _⟩ | exact ⟨.refl _, .refl _, .refl _⟩ | exact ⟨.refl _, _, rfl⟩ | exact ⟨_, rfl⟩ | exact ⟨.refl _, [], by simp⟩ | exact ⟨[], by simp⟩
 rintro i ⟨hi, hall⟩
 simp (maxSteps := 2000000) only [go_sem, reduceIte, Nat.reduceEqDiff, Nat.reduceAdd, CQ, laC]
 by_cases hlt : i < l.an.length
 ·have hlt' : (i : Int) < l.an.length := by omega
  have g1 := gI_lt hlt
  cases hb : Ds l.an i with
  | true =>
   have e := Qn h1 h2 hlt hb hall
   by_cases q1 : gI l.an i < 0
   ·simp (maxSteps := 2000000) only [go_sem, reduceIte, Nat.reduceEqDiff, Nat.reduceAdd, Nat.reduceLeDiff, Nat.reduceBEq, CQ, hlt', nn, g1, iD, q1, e]
   by_cases q2 : 90 < gI l.an i
   ·simp (maxSteps := 2000000) only [go_sem, reduceIte, Nat.reduceEqDiff, Nat.reduceAdd, Nat.reduceLeDiff, Nat.reduceBEq, CQ, hlt', nn, g1, iD, q1, q2, e]
   have hc : gI l.an i ≤ prv l.an i := by simpa [Ds, q2] using hb
   cases i with
   | zero => rw [K0] at hc; omega
   | succ j =>
    rw [KZ] at hc
    have g2 := gI_lt (l := l.an) (i := j) (by omega)
    have p1 : (0 : Int) < ((j + 1 : Nat) : Int) := by omega
    have hj' : (j : Int) < l.an.length := by omega
    have w1 := Oo j (show j < 1000 by omega)
    simp (maxSteps := 2000000) only [go_sem, reduceIte, Nat.reduceEqDiff, Nat.reduceAdd, Nat.reduceLeDiff, Nat.reduceBEq, CQ, hlt', nn, g1, iD, q1, q2, p1, w1, hj', g2, hc, e]
  | false =>
   have hc : ¬ gI l.an i ≤ prv l.an i := by intro h; simp [Ds, h] at hb
   have hc2 : ¬ 90 < gI l.an i := by intro h; simp [Ds, h] at hb
   have hall2 : ∀ j, j < i + 1 → Ds l.an j = false := fun j hj => by
    by_cases e : j = i
    ·subst e; exact hb
    ·exact hall j (by omega)
   have m1 : l.an.length - (i + 1) < l.an.length - i := by omega
   have hbig : l.an.length ≤ 140737488355328 := by omega
   cases i with
   | zero =>
    rw [K0] at hc
    have q1 : ¬ gI l.an 0 < 0 := by omega
    have p00 : (0 : Int) < l.an.length := hlt'
    have w7 := An hlt hbig
    simp (maxSteps := 2000000) only [go_sem, reduceIte, Nat.reduceEqDiff, Nat.reduceAdd, Nat.reduceLeDiff, Nat.reduceBEq, Int.reduceLT, Int.reduceLE, Int.reduceToNat, CQ, p00, nn, g1, iD, q1, hc2, w7]
    refine ⟨1, ⟨hlt, hall2⟩, m1, ?_⟩
    refine ent_weaken [] rfl rfl (Nat.zero_le _) rfl rfl ?_
    simp (maxSteps := 2000000) only [go_sem, reduceIte, Nat.reduceEqDiff, Nat.reduceLT, CQ, laC]
    all_goals first | exact .refl _ | exact ⟨.refl _, .refl _⟩ | exact ⟨.refl _, .refl _, .refl _⟩ | exact ⟨.refl _, _, rfl⟩ | exact ⟨_, rfl⟩ | exact ⟨.refl _, [], by simp⟩ | exact ⟨[], by simp⟩
   | succ j =>
    rw [KZ] at hc
    have g2 := gI_lt (l := l.an) (i := j) (by omega)
    have p1 : (0 : Int) < ((j + 1 : Nat) : Int) := by omega
    have hj' : (j : Int) < l.an.length := by omega
    have hj3 : j < 1000 := by omega
    have q1 : ¬ gI l.an (j + 1) < 0 := by
     have : 0 ≤ gI l.an j := (E5 (l := l.an.take (j + 1)) (fun i hi => by
      rw [List.length_take] at hi
      have := hall i (by omega)
      have e1 : gI (l.an.take (j + 1)) i = gI l.an i := by simp [gI, List.getD, List.getElem?_take, show i < j + 1 by omega]
      have e2 : prv (l.an.take (j + 1)) i = prv l.an i := by
       unfold prv
       split
       ·rfl
       ·simp [gI, List.getD, List.getElem?_take, show i - 1 < j + 1 by omega]
      unfold Ds at this ⊢
      rw [e1, e2]; exact this)).1 j (by rw [List.length_take]; omega) |>.1 |> fun h => by
       have e1 : gI (l.an.take (j + 1)) j = gI l.an j := by simp [gI, List.getD, List.getElem?_take]
       rwa [e1] at h
     omega
    have w1 := Oo j hj3
    have w7 := An hlt hbig
    simp (maxSteps := 2000000) only [go_sem, reduceIte, Nat.reduceEqDiff, Nat.reduceAdd, Nat.reduceLeDiff, Nat.reduceBEq, CQ, hlt', nn, g1, iD, q1, hc2, p1, w1, hj', g2, hc, w7]
    refine ⟨j + 1 + 1, ⟨hlt, hall2⟩, m1, ?_⟩
    refine ent_weaken [] rfl rfl (Nat.zero_le _) rfl rfl ?_
    simp (maxSteps := 2000000) only [go_sem, reduceIte, Nat.reduceEqDiff, Nat.reduceLT, CQ, laC]
    all_goals first | exact .refl _ | exact ⟨.refl _, .refl _⟩ | exact ⟨.refl _, .refl _, .refl _⟩ | exact ⟨.refl _, _, rfl⟩ | exact ⟨_, rfl⟩ | exact ⟨.refl _, [], by simp⟩ | exact ⟨[], by simp⟩
 ·have hlt' : ¬ (i : Int) < l.an.length := by omega
  have ei : i = l.an.length := by omega
  subst ei
  have e := M9 h1 h2 hall
  obtain ⟨c1, c2⟩ := E5 hall
  have z0 := c1 0 (by omega)
  have zn := c1 (l.an.length - 1) (by omega)
  have g0 := gI_lt (l := l.an) (i := 0) (by omega)
  have gn := gI_lt (l := l.an) (i := l.an.length - 1) (by omega)
  have p0 : (0 : Int) < l.an.length := by omega
  have n1 : ((l.an.length - 1 : Nat) : Int) < l.an.length := by omega
  by_cases k1 : l.li.length = l.an.length
  case neg =>
   have k1' : ¬ (l.li.length : Int) = l.an.length := by omega
   rw [if_pos (fun h => k1 h.1)] at e
   simp (maxSteps := 2000000) only [go_sem, reduceIte, Nat.reduceEqDiff, Nat.reduceAdd, Nat.reduceLeDiff, Nat.reduceBEq, CQ, hlt', k1', e]
  have k1' : (l.li.length : Int) = l.an.length := by omega
  by_cases k2 : l.fa.length + 1 = l.an.length
  case neg =>
   have k2' : ¬ (l.fa.length : Int) = ((l.an.length - 1 : Nat) : Int) := by omega
   rw [if_pos (fun h => k2 h.2.1)] at e
   have w1 : wr .i64 ((l.an.length : Int) - 1) = ((l.an.length - 1 : Nat) : Int) := JL (by omega) (by omega)
   simp (maxSteps := 2000000) only [go_sem, reduceIte, Nat.reduceEqDiff, Nat.reduceAdd, Nat.reduceLeDiff, Nat.reduceBEq, CQ, hlt', k1', w1, k2', e]
  have k2' : (l.fa.length : Int) = ((l.an.length - 1 : Nat) : Int) := by omega
  have w1 : wr .i64 ((l.an.length : Int) - 1) = ((l.an.length - 1 : Nat) : Int) := JL (by omega) (by omega)
  have w2 : wr .i64 (gI l.an (l.an.length - 1) - gI l.an 0) = gI l.an (l.an.length - 1) - gI l.an 0 := CO (by clear w1; omega)
  have w3 : wr .i64 (gI l.an (l.an.length - 1) - gI l.an 0 + 1) = gI l.an (l.an.length - 1) - gI l.an 0 + 1 := CO (by clear w1 w2; omega)
  by_cases k3 : (l.we.length : Int) = gI l.an (l.an.length - 1) - gI l.an 0 + 1
  case neg =>
   rw [if_pos (fun h => k3 h.2.2)] at e
   simp (maxSteps := 2000000) only [go_sem, reduceIte, Nat.reduceEqDiff, Nat.reduceAdd, Nat.reduceLeDiff, Nat.reduceBEq, Int.reduceLE, Int.reduceToNat, CQ, hlt', k1', w1, k2', nn, n1, g0, gn, iD, p0, w2, w3, k3, e]
  rw [if_neg (fun h => h ⟨k1, k2, k3⟩)] at e
  simp (maxSteps := 2000000) only [go_sem, reduceIte, Nat.reduceEqDiff, Nat.reduceAdd, Nat.reduceLeDiff, Nat.reduceBEq, Int.reduceLE, Int.reduceToNat, CQ, hlt', k1', w1, k2', nn, n1, g0, gn, iD, p0, w2, w3, k3]
  clear w1 w2 w3
  refine goE_loop (bad := []) (kp := Du) (fun i : Nat => { slots := [(1, .c (.ptr 0 0)), (3, I l.an.length), (5, I i)], heap := [.cells (laC l)], marks := [] }) (fun i => i ≤ l.an.length ∧ ∀ j x, j < i → l.li[j]? = some x → (!rgB 200 x) = false) (fun i => l.an.length - i) 0 mo (by kernel_rfl) ?_ ⟨Nat.zero_le _, by intro j x h; omega⟩ ?_
  ·refine ent_weaken [] rfl rfl (Nat.zero_le _) rfl rfl ?_
   simp (maxSteps := 2000000) only [go_sem, reduceIte, Nat.reduceEqDiff, Nat.reduceLT, CQ, laC]
   all_goals first | exact .refl _ | exact ⟨.refl _, .refl _⟩ | exact ⟨.refl _, .refl _, .refl _⟩ | exact ⟨.refl _, _, rfl⟩ | exact ⟨_, rfl⟩ | exact ⟨.refl _, [], by simp⟩ | exact ⟨[], by simp⟩
  clear hlt hlt' hi
  rintro i ⟨hi, hal⟩
  simp (maxSteps := 2000000) only [go_sem, reduceIte, Nat.reduceEqDiff, Nat.reduceAdd, CQ, laC]
  by_cases hlt : i < l.an.length
  ·have hlt' : (i : Int) < l.an.length := by omega
   have g1 := M4 (l := l.li) (i := i) (by omega)
   have hlr : (i : Int) < l.li.length := by omega
   have hw := aDz 200 (gR l.li i)
   unfold rgV rgC at hw
   have m1 : l.an.length - (i + 1) < l.an.length - i := by omega
   have w7 := An hlt (show l.an.length ≤ 140737488355328 by omega)
   simp (maxSteps := 2000000) only [go_sem, reduceIte, Nat.reduceEqDiff, Nat.reduceAdd, Nat.reduceLeDiff, Nat.reduceBEq, CQ, hlt', nn, hlr, g1, rgD]
   refine Aj (hw) rfl rfl (by first | exact wk_refls _ | (repeat constructor)) ?_
   cases hb : rgB 200 (gR l.li i) with
   | true =>
    simp (maxSteps := 2000000) only [go_sem, reduceIte, Nat.reduceEqDiff, Nat.reduceAdd, CQ, w7]
    refine ⟨i + 1, ⟨hlt, CL hal g1 (by rw [hb]; rfl)⟩, m1, ?_⟩
    refine ent_weaken [] rfl rfl (Nat.zero_le _) rfl rfl ?_
    simp (maxSteps := 2000000) only [go_sem, reduceIte, Nat.reduceEqDiff, Nat.reduceLT, CQ, laC]
    all_goals first | exact .refl _ | exact ⟨.refl _, .refl _⟩ | exact ⟨.refl _, .refl _, .refl _⟩ | exact ⟨.refl _, _, rfl⟩ | exact ⟨_, rfl⟩ | exact ⟨.refl _, [], by simp⟩ | exact ⟨[], by simp⟩
   | false =>
    have hr : ¬ l.li.all (rgB 200) = true := fun h => by
     have := List.all_eq_true.1 h _ (List.mem_of_getElem? g1)
     rw [hb] at this; cases this
    rw [if_neg (fun h => hr h.1)] at e
    simp (maxSteps := 2000000) only [go_sem, reduceIte, Nat.reduceEqDiff, Nat.reduceAdd, CQ, e]
  ·have hlt' : ¬ (i : Int) < l.an.length := by omega
   have ei : i = l.an.length := by omega
   subst ei
   have hr : l.li.all (rgB 200) = true := List.all_eq_true.2 fun x hx => by
    obtain ⟨j, hj⟩ := List.getElem?_of_mem hx
    have := hal j x (by have := (List.getElem?_eq_some_iff.1 hj).1; omega) hj
    simpa using this
   simp (maxSteps := 2000000) only [go_sem, reduceIte, Nat.reduceEqDiff, Nat.reduceAdd, CQ, hlt']
   refine goE_loop (bad := []) (kp := Du) (fun i : Nat => { slots := [(1, .c (.ptr 0 0)), (6, I i)], heap := [.cells (laC l)], marks := [] }) (fun i => i ≤ l.we.length ∧ ∀ j x, j < i → l.we[j]? = some x → Gg x = false) (fun i => l.we.length - i) 0 mo (by kernel_rfl) ?_ ⟨Nat.zero_le _, by intro j x h; omega⟩ ?_
   ·refine ent_weaken [] rfl rfl (Nat.zero_le _) rfl rfl ?_
    simp (maxSteps := 2000000) only [go_sem, reduceIte, Nat.reduceEqDiff, Nat.reduceLT, CQ, laC]
    all_goals first | exact .refl _ | exact ⟨.refl _, .refl _⟩ | exact ⟨.refl _, .refl _, .refl _⟩ | exact ⟨.refl _, _, rfl⟩ | exact ⟨_, rfl⟩ | exact ⟨.refl _, [], by simp⟩ | exact ⟨[], by simp⟩
   clear hlt hlt' hi
   rintro i ⟨hi, haw⟩
   simp (maxSteps := 2000000) only [go_sem, reduceIte, Nat.reduceEqDiff, Nat.reduceAdd, Nat.reduceBEq, CQ, laC]
   by_cases hlt : i < l.we.length
   ·have hlt' : (i : Int) < l.we.length := by omega
    have g1 := gI_lt (l := l.we) (i := i) (by omega)
    have m1 : l.we.length - (i + 1) < l.we.length - i := by omega
    have w7 := An hlt (show l.we.length ≤ 140737488355328 by omega)
    cases hb : Gg (gI l.we i) with
    | true =>
     have hq : ¬ l.we.any Gg = false := fun h => by
      have := List.any_eq_false.1 h _ (List.mem_of_getElem? g1)
      exact this hb
     rw [if_neg (fun h => hq h.2)] at e
     by_cases q1 : gI l.we i < 0
     ·simp (maxSteps := 2000000) only [go_sem, reduceIte, Nat.reduceEqDiff, Nat.reduceAdd, Nat.reduceBEq, CQ, hlt', nn, g1, iD, q1, e]
     ·have q2 : 1000 < gI l.we i := by simpa [Gg, q1] using hb
      simp (maxSteps := 2000000) only [go_sem, reduceIte, Nat.reduceEqDiff, Nat.reduceAdd, Nat.reduceBEq, CQ, hlt', nn, g1, iD, q1, q2, e]
    | false =>
     have q1 : ¬ gI l.we i < 0 := by intro h; simp [Gg, h] at hb
     have q2 : ¬ 1000 < gI l.we i := by intro h; simp [Gg, h] at hb
     simp (maxSteps := 2000000) only [go_sem, reduceIte, Nat.reduceEqDiff, Nat.reduceAdd, Nat.reduceBEq, CQ, hlt', nn, g1, iD, q1, q2, w7]
     refine ⟨i + 1, ⟨hlt, CL haw g1 hb⟩, m1, ?_⟩
     refine ent_weaken [] rfl rfl (Nat.zero_le _) rfl rfl ?_
     simp (maxSteps := 2000000) only [go_sem, reduceIte, Nat.reduceEqDiff, Nat.reduceLT, CQ, laC]
     all_goals first | exact .refl _ | exact ⟨.refl _, .refl _⟩ | exact ⟨.refl _, .refl _, .refl _⟩ | exact ⟨.refl _, _, rfl⟩ | exact ⟨_, rfl⟩ | exact ⟨.refl _, [], by simp⟩ | exact ⟨[], by simp⟩
   ·have hlt' : ¬ (i : Int) < l.we.length := by omega
    have ei : i = l.we.length := by omega
    subst ei
    have hq : l.we.any Gg = false := List.any_eq_false.2 fun x hx => by
     obtain ⟨j, hj⟩ := List.getElem?_of_mem hx
     rw [haw j x (List.getElem?_eq_some_iff.1 hj).1 hj]; simp
    rw [if_pos ⟨hr, hq⟩] at e
    simp (maxSteps := 2000000) only [go_sem, reduceIte, Nat.reduceEqDiff, Nat.reduceAdd, CQ, hlt', e]
end Go.Proofs.YtfgdbeijjbijnaaGreatDoor.Zo
set_option linter.unusedSimpArgs false
set_option linter.unusedVariables false
set_option maxRecDepth 100000
namespace Go.Proofs.YtfgdbeijjbijnaaGreatDoor.Zo
open Go Go.Abs Go.Proofs
theorem okLa_n {l : La} (h : CF l = 0) : Bc l := ((aDn l).1 h).1
end Go.Proofs.YtfgdbeijjbijnaaGreatDoor.Zo
set_option linter.unusedSimpArgs false
set_option linter.unusedVariables false
set_option maxRecDepth 100000
namespace Go.Proofs.YtfgdbeijjbijnaaGreatDoor.Zo
open Go Go.Abs Go.Proofs
def Mk : List (Nat × List Nat) := [(0, [1]), (1, [3, 4]), (2, [3, 4, 5]), (3, [3, 4, 5, 14]), (4, [3, 4, 5]), (5, [3, 4, 5, 25]), (6, [2]), (7, [2])]
theorem Qt : lookK Mk 0 = some [1] ∧ lookK Mk 1 = some [3, 4] ∧ lookK Mk 2 = some [3, 4, 5] ∧ lookK Mk 3 = some [3, 4, 5, 14] ∧ lookK Mk 4 = some [3, 4, 5] ∧ lookK Mk 5 = some [3, 4, 5, 25] ∧ lookK Mk 6 = some [2] ∧ lookK Mk 7 = some [2] := ⟨rfl, rfl, rfl, rfl, rfl, rfl, rfl, rfl⟩
theorem K5 {n : Nat} (h : n ≤ 91) : n ≤ 140737488355328 := Nat.le_trans h (by decide)
set_option maxHeartbeats 2000000 in
theorem Vk (l : La) (h : Bc l) : BA Tryz.prog 63 [laV l] (B (dbB l)) := by
 refine pure_wkE (bad := []) (kp := Mk) (X := tx) (nt := 26) (rs := [.tmp 2]) Tryz.func63 rfl rfl rfl rfl mo (by kernel_rfl) rfl rfl (fun hf => ?_)
 obtain ⟨n2, n91⟩ := h.n91
 have hb := Qo l h
 have el := fl_len l.we.length (bl l)
 have eh := fl_len l.we.length (bh l)
 have gl := fun k (hk : k < l.we.length) => gI_lt (l := fl l.we.length (bl l)) (i := k) (by rw [el]; exact hk)
 have gh := fun k (hk : k < l.we.length) => gI_lt (l := fl l.we.length (bh l)) (i := k) (by rw [eh]; exact hk)
 have vl := fun k (hk : k < l.we.length) => fl_get (bl l) hk
 have vh := fun k (hk : k < l.we.length) => fl_get (bh l) hk
 generalize fl l.we.length (bl l) = L at *
 generalize fl l.we.length (bh l) = Hh at *
 unfold laV laC ints at hb
 simp (maxSteps := 2000000) only [go_sem, reduceIte, Nat.reduceEqDiff, Nat.reduceAdd, Qt, laV, laC]
 refine Aj (hb) rfl rfl (by first | exact wk_refls _ | (repeat constructor)) ?_
 simp (maxSteps := 2000000) only [go_sem, reduceIte, Nat.reduceEqDiff, Qt]
 refine goE_loop (bad := []) (kp := Mk) (fun k : Nat => { slots := [(3, ints L), (4, ints Hh), (5, I k)], heap := [.cells (laC l)], marks := [] }) (fun k => k ≤ l.we.length ∧ ∀ j, j < k → ¬ bh l j < bl l j) (fun k => l.we.length - k) 0 mo (by kernel_rfl) ?_ ⟨Nat.zero_le _, by intro j hj; omega⟩ ?_
 ·refine ent_weaken [] rfl rfl (Nat.zero_le _) rfl rfl ?_
  simp (maxSteps := 2000000) only [go_sem, reduceIte, Nat.reduceEqDiff, Qt, laC, ints]
  all_goals first | exact .refl _ | exact ⟨.refl _, .refl _⟩ | exact ⟨.refl _, .refl _, .refl _⟩ | exact ⟨.refl _, _, rfl⟩ | exact ⟨_, rfl⟩ | exact ⟨.refl _, [], by simp⟩ | exact ⟨[], by simp⟩
 rintro k ⟨hk, hall⟩
 simp (maxSteps := 2000000) only [go_sem, reduceIte, Nat.reduceEqDiff, Nat.reduceAdd, Qt, laC, ints, el]
 by_cases hlt : k < l.we.length
 ·have hlt' : (k : Int) < l.we.length := by omega
  have g1 := gl k hlt
  have g2 := gh k hlt
  rw [vl k hlt] at g1
  rw [vh k hlt] at g2
  have m1 : l.we.length - (k + 1) < l.we.length - k := by omega
  by_cases hc : bh l k < bl l k
  ·have e : dbB l = true := (JK l).2 ⟨k, hlt, hc⟩
   simp (maxSteps := 2000000) only [go_sem, reduceIte, Nat.reduceEqDiff, Nat.reduceAdd, Qt, hlt', nn, el, eh, g1, g2, iD, hc, e]
  ·have w7 := An hlt (K5 n91)
   simp (maxSteps := 2000000) only [go_sem, reduceIte, Nat.reduceEqDiff, Nat.reduceAdd, Qt, hlt', nn, el, eh, g1, g2, iD, hc, w7]
   refine ⟨k + 1, ⟨hlt, fun j hj => ?_⟩, m1, ?_⟩
   ·by_cases e : j = k
    ·subst e; exact hc
    ·exact hall j (Nat.lt_of_le_of_ne (Nat.le_of_lt_succ hj) e)
   refine ent_weaken [] rfl rfl (Nat.zero_le _) rfl rfl ?_
   simp (maxSteps := 2000000) only [go_sem, reduceIte, Nat.reduceEqDiff, Qt, laC, ints]
   all_goals first | exact .refl _ | exact ⟨.refl _, .refl _⟩ | exact ⟨.refl _, .refl _, .refl _⟩ | exact ⟨.refl _, _, rfl⟩ | exact ⟨_, rfl⟩ | exact ⟨.refl _, [], by simp⟩ | exact ⟨[], by simp⟩
 ·have hlt' : ¬ (k : Int) < l.we.length := by omega
  have e : dbB l = false := by
   rw [← Bool.not_eq_true, JK]
   rintro ⟨j, hj, h2⟩
   exact hall j (by omega) h2
  simp (maxSteps := 2000000) only [go_sem, reduceIte, Nat.reduceEqDiff, Nat.reduceAdd, Qt, hlt', e]
def spE (l : La) : Int := if CF l = 0 then (if dbB l then 21 else 0) else CF l
theorem aGb {l : La} (h : CF l = 0) (hd : dbB l = false) : spE l = 0 := by unfold spE; rw [if_pos h, hd]; rfl
theorem aDM {l : La} (h : CF l = 0) (hd : dbB l = true) : spE l = 21 := by unfold spE; rw [if_pos h, hd]; rfl
theorem aFI {l : La} (h : ¬ CF l = 0) : spE l = CF l := by unfold spE; rw [if_neg h]
def atE (l : La) (d : Int) : Int := if CF l = 0 then (if d < gI l.an 0 ∨ gI l.an (l.an.length - 1) < d then 3 else if dbB l then 21 else 0) else CF l
def atR (l : La) (d : Int) : Rg := if atE l d = 0 then ⟨bl l (d - gI l.an 0).toNat, bh l (d - gI l.an 0).toNat⟩ else ⟨0, 0⟩
theorem aFJ {l : La} (h : ¬ CF l = 0) (d : Int) : atE l d = CF l := by unfold atE; rw [if_neg h]
theorem Uc {l : La} {d : Int} (h : CF l = 0) (h2 : d < gI l.an 0 ∨ gI l.an (l.an.length - 1) < d) : atE l d = 3 := by unfold atE; rw [if_pos h, if_pos h2]
theorem aH8 {l : La} {d : Int} (h : CF l = 0) (h2 : ¬ (d < gI l.an 0 ∨ gI l.an (l.an.length - 1) < d)) (hd : dbB l = true) : atE l d = 21 := by unfold atE; rw [if_pos h, if_neg h2, hd]; rfl
theorem aGc {l : La} {d : Int} (h : CF l = 0) (h2 : ¬ (d < gI l.an 0 ∨ gI l.an (l.an.length - 1) < d)) (hd : dbB l = false) : atE l d = 0 := by unfold atE; rw [if_pos h, if_neg h2, hd]; rfl
theorem JM {l : La} {d : Int} (h : ¬ atE l d = 0) : atR l d = ⟨0, 0⟩ := by unfold atR; rw [if_neg h]
theorem aGd {l : La} {d : Int} (h : atE l d = 0) : atR l d = ⟨bl l (d - gI l.an 0).toNat, bh l (d - gI l.an 0).toNat⟩ := by unfold atR; rw [if_pos h]
end Go.Proofs.YtfgdbeijjbijnaaGreatDoor.Zo
set_option linter.unusedSimpArgs false
set_option linter.unusedVariables false
set_option maxRecDepth 100000
namespace Go.Proofs.YtfgdbeijjbijnaaGreatDoor.Zo
open Go Go.Abs Go.Proofs
def Nf : List (Nat × List Nat) := [(0, [1]), (1, [1, 3]), (2, [3]), (3, [3]), (4, [2])]
theorem Ud : lookK Nf 0 = some [1] ∧ lookK Nf 1 = some [1, 3] ∧ lookK Nf 2 = some [3] ∧ lookK Nf 3 = some [3] ∧ lookK Nf 4 = some [2] := ⟨rfl, rfl, rfl, rfl, rfl⟩
def aH9 : List (Nat × List Nat) := [(0, [0, 1, 4]), (1, [4])]
theorem aFK : lookK aH9 0 = some [0, 1, 4] ∧ lookK aH9 1 = some [4] := ⟨rfl, rfl⟩
def AG (l : La) (a d : Nat → Int) : List D := [D.sl (l.an.map iD), D.sl (l.li.map rgD), D.sl (l.fa.map bD), D.sl (l.we.map iD)] ++ (Ar 22 a ++ Ar 182 d)
theorem aDN (l : La) (a d : Nat → Int) : A1 l a d = (AG l a d).map C.d := by simp [A1, AG, laC, F9]
def tbD (l : La) : List D := AG l (ilv (aL l) (aH l)) (ilv (cut l.we.length (bl l)) (cut l.we.length (bh l)))
theorem aFL (l : La) : (tbD l).length = 208 := by simp [tbD, AG, Ar]
theorem aDO {l : La} {k : Nat} {x : D} (h : (A1 l (ilv (aL l) (aH l)) (ilv (cut l.we.length (bl l)) (cut l.we.length (bh l))))[k]? = some (.d x)) : (tbD l)[k]? = some x := by
 rw [aDN, List.getElem?_map] at h
 unfold tbD
 cases e : (AG l (ilv (aL l) (aH l)) (ilv (cut l.we.length (bl l)) (cut l.we.length (bh l))))[k]? with
 | none => rw [e] at h; cases h
 | some y => rw [e] at h; simp at h; rw [h]
theorem aIa {l : La} {k : Nat} (h : k < l.we.length) (h2 : k < 91) : (tbD l)[26 + k * 2]? = some (.int .i64 (bl l k)) := by
 refine aDO ?_
 rw [aDI h2]; unfold cut; rw [if_pos h]
theorem aIb {l : La} {k : Nat} (h : k < l.we.length) (h2 : k < 91) : (tbD l)[26 + k * 2 + 1]? = some (.int .i64 (bh l k)) := by
 refine aDO ?_
 rw [aDJ h2]; unfold cut; rw [if_pos h]
def tbV (l : La) : V := .c (.dp (tbD l))
theorem aDP {l : La} {k : Nat} (h : k < l.we.length) (h2 : k < 91) : ∃ rest, List.drop (k * 2) (List.drop 26 (tbD l)) = D.int .i64 (bl l k) :: D.int .i64 (bh l k) :: rest := by
 rw [List.drop_drop]
 obtain ⟨a1, a2⟩ := List.getElem?_eq_some_iff.1 (aIa h h2)
 obtain ⟨b1, b2⟩ := List.getElem?_eq_some_iff.1 (aIb h h2)
 exact ⟨_, by rw [List.drop_eq_getElem_cons a1, List.drop_eq_getElem_cons b1, a2, b2]⟩
theorem at59 (l : La) (ok : Bc l) (k : Nat) (hk : k < l.we.length) : BA Tryz.prog 70 [tbV l, I k] (rgV ⟨bl l k, bh l k⟩) := by
 refine pure_wkE (bad := []) (kp := aH9) (X := tx) (nt := 11) (rs := [.cell 4 46]) Tryz.func70 rfl rfl rfl rfl mo (by kernel_rfl) rfl rfl (fun hf => ?_)
 have n91 := ok.n91.2
 have k91 : (k : Int) < 91 := by omega
 obtain ⟨rest, hr⟩ := aDP hk (show k < 91 by omega)
 simp (maxSteps := 2000000) only [go_sem, reduceIte, Nat.reduceEqDiff, Nat.reduceAdd, Nat.reduceLeDiff, Nat.reduceBEq, Ud, aFK, tbV, aFL, nn, k91, Int.toNat_natCast, hr, List.length_cons, rgV, rgC]
theorem Ng (a b : Nat) (f : Nat → Int) : Ac (a + b) f = Ac a f ++ Ac b (fun k => f (a + k)) := by
 simp [Ac, List.range_add, Function.comp_def]
theorem K6 (n : Nat) (f : Nat → Int) : Ac (n + 1) f = .d (.int .i64 (f 0)) :: Ac n (fun k => f (k + 1)) := by
 simp [Ac, List.range_succ_eq_map, Function.comp_def]
theorem Vl (f g : Nat → Int) : (fun k => ilv f g (k + 1 + 1)) = ilv (fun i => f (i + 1)) (fun i => g (i + 1)) := funext fun k => by
 unfold ilv
 rw [show (k + 1 + 1) % 2 = k % 2 by omega, show (k + 1 + 1) / 2 = k / 2 + 1 by omega]
theorem Nh : ∀ (l : List Rg), (l.map rgD).flatten.map C.d = Ac (l.length * 2) (ilv (fun i => (gR l i).lo) (fun i => (gR l i).hi))
 | [] => rfl
 | r :: l => by
  have ih := Nh l
  rw [show (r :: l).length * 2 = l.length * 2 + 1 + 1 by simp; omega, K6, K6]
  have e1 : ilv (fun i => (gR (r :: l) i).lo) (fun i => (gR (r :: l) i).hi) 0 = r.lo := rfl
  have e2 : ilv (fun i => (gR (r :: l) i).lo) (fun i => (gR (r :: l) i).hi) (0 + 1) = r.hi := rfl
  rw [e1, e2, Vl]
  simp only [List.map_cons, List.flatten_cons, List.map_append, ih, rgD, List.map_nil, List.cons_append, List.nil_append]
  rfl
theorem aFM {l : La} (ok : Bc l) (k : Nat) : ilv (lis l) (his l) (l.an.length * 2 + k) = 0 := by
 unfold ilv lis his
 have e : l.li.length ≤ (l.an.length * 2 + k) / 2 := by have := ok.li; omega
 rw [Sg e]; simp
theorem aDQ {l : La} (ok : Bc l) : setMany (A1 l (fun _ => 0) (fun _ => 0)) 4 (Ac (l.an.length * 2) (ilv (lis l) (his l))) = A1 l (ilv (lis l) (his l)) (fun _ => 0) := by
 have m11 := ok.m11
 obtain ⟨b, hb⟩ : ∃ b, 22 = l.an.length * 2 + b := ⟨22 - l.an.length * 2, by omega⟩
 rw [Ca _ _ _ (by rw [Cm, Ah]; omega), spl, Ah]
 have e1 : (A1 l (fun _ => 0) (fun _ => 0)).take 4 = laC l := rfl
 have e2 : (A1 l (fun _ => 0) (fun _ => 0)).drop (4 + l.an.length * 2) = Ac b (fun _ => 0) ++ Ac 182 (fun _ => 0) := by
  rw [A1, hb, Ng, List.append_assoc, ← List.append_assoc (laC l), List.drop_left' (by simp [laC, Ah]; omega)]
 have e3 : A1 l (ilv (lis l) (his l)) (fun _ => 0) = laC l ++ (Ac (l.an.length * 2) (ilv (lis l) (his l)) ++ (Ac b (fun _ => 0) ++ Ac 182 (fun _ => 0))) := by
  rw [A1, hb, Ng, List.append_assoc]
  simp only [aFM ok]
 rw [e1, e2, e3, List.append_assoc]
theorem aDR (l : La) : laC l ++ List.replicate 204 (C.d (.int .i64 0)) = A1 l (fun _ => 0) (fun _ => 0) := by
 rw [A1, ← Ir, ← Ir, List.replicate_append_replicate]
set_option maxHeartbeats 4000000 in
theorem aFN (l : La) (ok : Bc l) : BA Tryz.prog 155 [laV l] (tbV l) := by
 refine pure_fzE (bad := [2]) (kp := Nf) (X := tx) (nt := 17) (rs := [.tmp 2]) Tryz.func155 rfl rfl rfl rfl mo (by kernel_rfl) rfl rfl (fun hf => ?_)
 have hd := aH6 l ok
 have hz := aDR l
 have hli := ok.li
 have m11 := ok.m11
 simp (maxSteps := 2000000) only [go_sem, Ud, aFK, laC, List.cons_append, List.nil_append] at hz hd
 have hmin : l.li.length.min 11 = l.an.length := by rw [hli]; exact Nat.min_eq_left m11
 have hm : DZ [AB.cells [C.d (D.sl (List.map iD l.an)), C.d (D.sl (List.map rgD l.li)), C.d (D.sl (List.map bD l.fa)), C.d (D.sl (List.map iD l.we))], AB.cells (A1 l (fun _ => 0) (fun _ => 0))] 2 l.an.length (C.d (D.sl (List.map rgD l.li))) = some (Ac (l.an.length * 2) (ilv (lis l) (his l))) := by
  have hr := Nh l.li
  rw [hli] at hr
  have e : CI (C.d (D.sl (List.map rgD l.li))) = some (List.map rgD l.li) := rfl
  simp only [DZ, e]
  rw [if_pos ⟨by simp [hli], List.all_eq_true.2 fun r hr => by obtain ⟨x, _, rfl⟩ := List.mem_map.1 hr; rfl⟩, List.take_of_length_le (by simp [hli]), hr]; rfl
 have hc := aDQ ok
 have c1 : decide (4 + l.an.length * 2 ≤ 208) = true := by simp; omega
 simp (maxSteps := 2000000) only [go_sem, reduceIte, Nat.reduceEqDiff, Nat.reduceAdd, Nat.reduceLT, Nat.reduceLeDiff, Nat.reduceBEq, Ud, aFK, laV, laC, hz, hmin, hm, Cm, Ah, hc]
 refine ⟨c1, AF (by kernel_rfl), ?_⟩
 refine Az (hd) rfl rfl (by first | exact wk_refls _ | (repeat constructor)) ?_
 simp (maxSteps := 2000000) only [go_sem, reduceIte, Nat.reduceEqDiff, Ud, aFK]
 exact ⟨1, _, tbD l, _, rfl, by rw [aDN]; exact KC _, .v (.c (.ptr 0 (Nat.zero_le _))), .refl _⟩
end Go.Proofs.YtfgdbeijjbijnaaGreatDoor.Zo
set_option linter.unusedSimpArgs false
set_option linter.unusedVariables false
set_option maxRecDepth 100000
namespace Go.Proofs.YtfgdbeijjbijnaaGreatDoor.Zo
open Go Go.Abs Go.Proofs
def Qu : List (Nat × List Nat) := [(0, [1]), (1, [1, 4]), (2, [1, 4, 8]), (3, [2, 3]), (4, [1, 13]), (5, [2, 3]), (6, [2, 3])]
theorem GT : lookK Qu 0 = some [1] ∧ lookK Qu 1 = some [1, 4] ∧ lookK Qu 2 = some [1, 4, 8] ∧ lookK Qu 3 = some [2, 3] ∧ lookK Qu 4 = some [1, 13] ∧ lookK Qu 5 = some [2, 3] ∧ lookK Qu 6 = some [2, 3] := ⟨rfl, rfl, rfl, rfl, rfl, rfl, rfl⟩
def K7 : List (Nat × List Nat) := [(0, [1, 2, 4]), (1, [1, 2, 4, 6]), (2, [1, 2, 4, 6, 10]), (3, [4, 5]), (4, [1, 2, 4, 15]), (5, [4, 5]), (6, [1, 2, 4, 6, 7]), (7, [1, 2, 4, 6, 7, 41]), (8, [4, 5]), (9, [4, 5])]
theorem GU : lookK K7 0 = some [1, 2, 4] ∧ lookK K7 1 = some [1, 2, 4, 6] ∧ lookK K7 2 = some [1, 2, 4, 6, 10] ∧ lookK K7 3 = some [4, 5] ∧ lookK K7 4 = some [1, 2, 4, 15] ∧ lookK K7 5 = some [4, 5] ∧ lookK K7 6 = some [1, 2, 4, 6, 7] ∧ lookK K7 7 = some [1, 2, 4, 6, 7, 41] ∧ lookK K7 8 = some [4, 5] ∧ lookK K7 9 = some [4, 5] := ⟨rfl, rfl, rfl, rfl, rfl, rfl, rfl, rfl, rfl, rfl⟩
def opV (l : La) : V := if spE l = 0 then tbV l else .c .nilp
theorem aGe {l : La} (h : spE l = 0) : opV l = .c (.dp (tbD l)) := by unfold opV; rw [if_pos h]; rfl
theorem OM {l : La} (h : ¬ spE l = 0) : opV l = .c .nilp := by unfold opV; rw [if_neg h]
set_option maxHeartbeats 2000000 in
theorem aIc (l : La) : BA Tryz.prog 69 [laV l] (.tup [opV l, I (spE l)]) := by
 refine pure_wkE (bad := []) (kp := Qu) (X := tx) (nt := 16) (rs := [.tmp 2, .tmp 3]) Tryz.func69 rfl rfl rfl rfl mo (by kernel_rfl) rfl (by unfold opV; split <;> rfl) (fun hf => ?_)
 have hl := aDA l
 unfold laV laC at hl
 simp (maxSteps := 2000000) only [go_sem, reduceIte, Nat.reduceEqDiff, Nat.reduceAdd, GT, GU, laV, laC]
 refine Aj (hl) rfl rfl (by first | exact wk_refls _ | (repeat constructor)) ?_
 by_cases h0 : CF l = 0
 case neg =>
  have e := aFI h0
  have e2 := OM (l := l) (by rw [e]; exact h0)
  simp (maxSteps := 2000000) only [go_sem, reduceIte, Nat.reduceEqDiff, Nat.reduceAdd, GT, GU, h0, e, e2]
  all_goals first | exact .refl _ | exact ⟨.refl _, .refl _⟩ | exact ⟨.refl _, .refl _, .refl _⟩ | exact ⟨.refl _, _, rfl⟩ | exact ⟨_, rfl⟩ | exact ⟨.refl _, [], by simp⟩ | exact ⟨[], by simp⟩
 have ok := okLa_n h0
 have hc := aFC l ok
 have ht := aFN l ok
 unfold laV laC at hc ht
 unfold T7 DF at hc
 unfold tbV at ht
 simp (maxSteps := 2000000) only [go_sem, reduceIte, Nat.reduceEqDiff, Nat.reduceAdd, GT, GU, h0]
 refine Aj (hc) rfl rfl (by first | exact wk_refls _ | (repeat constructor)) ?_
 cases hd : dbB l with
 | true =>
  have e := aDM h0 hd
  have e2 := OM (l := l) (by rw [e]; decide)
  obtain ⟨s1, s2, s3⟩ := GQ ((M8 ok).1 hd)
  have hne : ¬ ((C6 l).2 : Int) = 0 := by omega
  simp (maxSteps := 2000000) only [go_sem, reduceIte, Nat.reduceEqDiff, Nat.reduceAdd, GT, GU, hne, decide_false, Bool.and_false, Bool.not_false, e, e2]
  all_goals first | exact .refl _ | exact ⟨.refl _, .refl _⟩ | exact ⟨.refl _, .refl _, .refl _⟩ | exact ⟨.refl _, _, rfl⟩ | exact ⟨_, rfl⟩ | exact ⟨.refl _, [], by simp⟩ | exact ⟨[], by simp⟩
 | false =>
  have e := aGb h0 hd
  have e2 := aGe e
  have hp := (Sk ok).2 hd
  simp (maxSteps := 2000000) only [go_sem, reduceIte, Nat.reduceEqDiff, Nat.reduceAdd, GT, GU, hp]
  refine Aj (ht) rfl rfl (by first | exact wk_refls _ | (repeat constructor)) ?_
  simp (maxSteps := 2000000) only [go_sem, reduceIte, Nat.reduceEqDiff, GT, GU, e, e2]
  all_goals first | exact .refl _ | exact ⟨.refl _, .refl _⟩ | exact ⟨.refl _, .refl _, .refl _⟩ | exact ⟨.refl _, _, rfl⟩ | exact ⟨_, rfl⟩ | exact ⟨.refl _, [], by simp⟩ | exact ⟨[], by simp⟩
set_option maxHeartbeats 2000000 in
theorem at29 (l : La) (d : Int) : BA Tryz.prog 26 [laV l, I d] (.tup [rgV (atR l d), I (atE l d)]) := by
 refine pure_wkE (bad := []) (kp := K7) (X := tx) (nt := 52) (rs := [.cell 4 46, .tmp 5]) Tryz.func26 rfl rfl rfl rfl mo (by kernel_rfl) rfl rfl (fun hf => ?_)
 have hl := aDA l
 have ho := aIc l
 unfold laV laC at hl ho
 simp (maxSteps := 2000000) only [go_sem, reduceIte, Nat.reduceEqDiff, Nat.reduceAdd, GT, GU, laV, laC]
 refine Aj (hl) rfl rfl (by first | exact wk_refls _ | (repeat constructor)) ?_
 by_cases h0 : CF l = 0
 case neg =>
  have e := aFJ h0 d
  have e2 := JM (l := l) (d := d) (by rw [e]; exact h0)
  simp (maxSteps := 2000000) only [go_sem, reduceIte, Nat.reduceEqDiff, Nat.reduceAdd, GT, GU, h0, e, e2, rgV, rgC]
  all_goals first | exact .refl _ | exact ⟨.refl _, .refl _⟩ | exact ⟨.refl _, .refl _, .refl _⟩ | exact ⟨.refl _, _, rfl⟩ | exact ⟨_, rfl⟩ | exact ⟨.refl _, [], by simp⟩ | exact ⟨[], by simp⟩
 have ok := okLa_n h0
 have m2 := ok.m2
 have m11 := ok.m11
 have g0 := gI_lt (l := l.an) (i := 0) (by omega)
 have gn := gI_lt (l := l.an) (i := l.an.length - 1) (by omega)
 have p0 : (0 : Int) < l.an.length := by omega
 have pn : ((l.an.length - 1 : Nat) : Int) < l.an.length := by omega
 have ha0 := ok.a0 0 (by omega)
 have han := ok.a0 (l.an.length - 1) (by omega)
 have hwe := ok.we
 by_cases h1 : d < gI l.an 0
 ·have e := Uc h0 (.inl h1)
  have e2 := JM (l := l) (d := d) (by rw [e]; decide)
  simp (maxSteps := 2000000) only [go_sem, reduceIte, Nat.reduceEqDiff, Nat.reduceAdd, Nat.reduceLeDiff, Nat.reduceBEq, Int.reduceLE, Int.reduceToNat, GT, GU, h0, p0, g0, iD, h1, e, e2, rgV, rgC]
  all_goals first | exact .refl _ | exact ⟨.refl _, .refl _⟩ | exact ⟨.refl _, .refl _, .refl _⟩ | exact ⟨.refl _, _, rfl⟩ | exact ⟨_, rfl⟩ | exact ⟨.refl _, [], by simp⟩ | exact ⟨[], by simp⟩
 by_cases h2 : gI l.an (l.an.length - 1) < d
 ·have e := Uc h0 (.inr h2)
  have e2 := JM (l := l) (d := d) (by rw [e]; decide)
  have w1 := JL (n := l.an.length) (by omega) (by omega)
  simp (maxSteps := 2000000) only [go_sem, reduceIte, Nat.reduceEqDiff, Nat.reduceAdd, Nat.reduceLeDiff, Nat.reduceBEq, Int.reduceLE, Int.reduceToNat, GT, GU, h0, p0, g0, iD, h1, w1, nn, pn, gn, h2, e, e2, rgV, rgC]
  all_goals first | exact .refl _ | exact ⟨.refl _, .refl _⟩ | exact ⟨.refl _, .refl _, .refl _⟩ | exact ⟨.refl _, _, rfl⟩ | exact ⟨_, rfl⟩ | exact ⟨.refl _, [], by simp⟩ | exact ⟨[], by simp⟩
 have h12 : ¬ (d < gI l.an 0 ∨ gI l.an (l.an.length - 1) < d) := by omega
 have hdn : (d - gI l.an 0).toNat < l.we.length := by omega
 have hdi : ((d - gI l.an 0).toNat : Int) = d - gI l.an 0 := by omega
 have hat := at59 l ok _ hdn
 have wd : wr .i64 (d - gI l.an 0) = (((d - gI l.an 0).toNat : Nat) : Int) := by rw [CO (by omega), hdi]
 have w1 := JL (n := l.an.length) (by clear wd; omega) (by clear wd; omega)
 cases hq : dbB l with
 | true =>
  have e := aH8 h0 h12 hq
  have e2 := JM (l := l) (d := d) (by rw [e]; decide)
  have e3 := aDM h0 hq
  rw [OM (by rw [e3]; decide), e3] at ho
  simp (maxSteps := 2000000) only [go_sem, reduceIte, Nat.reduceEqDiff, Nat.reduceAdd, Nat.reduceLeDiff, Nat.reduceBEq, Int.reduceLE, Int.reduceToNat, GT, GU, h0, p0, g0, iD, h1, w1, nn, pn, gn, h2]
  refine Aj (ho) rfl rfl (by first | exact wk_refls _ | (repeat constructor)) ?_
  simp (maxSteps := 2000000) only [go_sem, reduceIte, Nat.reduceEqDiff, Nat.reduceAdd, Int.reduceEq, GT, GU, e, e2, rgV, rgC]
  all_goals first | exact .refl _ | exact ⟨.refl _, .refl _⟩ | exact ⟨.refl _, .refl _, .refl _⟩ | exact ⟨.refl _, _, rfl⟩ | exact ⟨_, rfl⟩ | exact ⟨.refl _, [], by simp⟩ | exact ⟨[], by simp⟩
 | false =>
  have e := aGc h0 h12 hq
  have e2 := aGd e
  have e3 := aGb h0 hq
  rw [aGe e3, e3] at ho
  unfold tbV rgV rgC at hat
  generalize (d - gI l.an 0).toNat = k at *
  simp (maxSteps := 2000000) only [go_sem, reduceIte, Nat.reduceEqDiff, Nat.reduceAdd, Nat.reduceLeDiff, Nat.reduceBEq, Int.reduceLE, Int.reduceToNat, GT, GU, h0, p0, g0, iD, h1, w1, nn, pn, gn, h2]
  refine Aj (ho) rfl rfl (by first | exact wk_refls _ | (repeat constructor)) ?_
  simp (maxSteps := 2000000) only [go_sem, reduceIte, Nat.reduceEqDiff, Nat.reduceAdd, Nat.reduceLeDiff, Nat.reduceBEq, Int.reduceLE, Int.reduceToNat, GT, GU, p0, g0, iD, wd]
  refine Aj (hat) rfl rfl (by first | exact wk_refls _ | (repeat constructor)) ?_
  simp (maxSteps := 2000000) only [go_sem, reduceIte, Nat.reduceEqDiff, Nat.reduceAdd, GT, GU, e, e2, rgV, rgC]
  all_goals first | exact .refl _ | exact ⟨.refl _, .refl _⟩ | exact ⟨.refl _, .refl _, .refl _⟩ | exact ⟨.refl _, _, rfl⟩ | exact ⟨_, rfl⟩ | exact ⟨.refl _, [], by simp⟩ | exact ⟨[], by simp⟩
end Go.Proofs.YtfgdbeijjbijnaaGreatDoor.Zo
