/- Zones: the test that narrows most, by the program. -/
import Derived.Test.YtliamojogmlgjaaZ20
import Derived.Test.YtliamojogmlgjaaZ13
set_option linter.unusedSimpArgs false
set_option linter.unusedVariables false
set_option maxRecDepth 100000
namespace Go.Proofs.Ytliamojogmlgjaa
open Go Go.Abs Go.Proofs
def kp35 : List (Nat × List Nat) := [(0, [1, 2]), (1, [1, 2, 7]), (2, [1, 2, 7, 21]), (3, [4, 5, 6]), (4, [1, 2, 28]), (5, [4, 5, 6]), (6, [1, 2, 8, 9]), (7, [1, 2, 8, 9, 35]), (8, [4, 5, 6]), (9, [1, 2, 8, 10]), (10, [1, 2, 8, 10, 39, 40]), (11, [1, 2, 8, 10, 39, 40, 41]), (12, [1, 2, 8, 10, 11, 39, 40]), (13, [1, 2, 8, 10, 11, 12, 39, 40]), (14, [1, 2, 8, 10, 11, 12, 13, 39, 40]), (15, [1, 2, 8, 10, 11, 12, 13, 14, 39, 40]), (16, [1, 2, 8, 10, 11, 12, 13, 14, 39, 40, 54]), (17, [1, 2, 8, 10, 11, 12, 13, 14, 39, 40]), (18, [1, 2, 8, 10, 11, 12, 13, 14, 15, 16, 39, 40]), (19, [1, 2, 8, 10, 11, 12, 13, 14, 15, 39, 40, 70]), (20, [1, 2, 8, 10, 11, 12, 13, 14, 39, 40]), (21, [1, 2, 8, 10, 39, 40]), (22, [1, 2, 8, 10, 39, 40]), (23, [2, 10, 17]), (24, [4, 5, 6])]
theorem lk35 : lookK kp35 0 = some [1, 2] ∧ lookK kp35 1 = some [1, 2, 7] ∧ lookK kp35 2 = some [1, 2, 7, 21] ∧ lookK kp35 3 = some [4, 5, 6] ∧ lookK kp35 4 = some [1, 2, 28] ∧ lookK kp35 5 = some [4, 5, 6] ∧ lookK kp35 6 = some [1, 2, 8, 9] ∧ lookK kp35 7 = some [1, 2, 8, 9, 35] ∧ lookK kp35 8 = some [4, 5, 6] ∧ lookK kp35 9 = some [1, 2, 8, 10] ∧ lookK kp35 10 = some [1, 2, 8, 10, 39, 40] ∧ lookK kp35 11 = some [1, 2, 8, 10, 39, 40, 41] ∧ lookK kp35 12 = some [1, 2, 8, 10, 11, 39, 40] ∧ lookK kp35 13 = some [1, 2, 8, 10, 11, 12, 39, 40] ∧ lookK kp35 14 = some [1, 2, 8, 10, 11, 12, 13, 39, 40] ∧ lookK kp35 15 = some [1, 2, 8, 10, 11, 12, 13, 14, 39, 40] ∧ lookK kp35 16 = some [1, 2, 8, 10, 11, 12, 13, 14, 39, 40, 54] ∧ lookK kp35 17 = some [1, 2, 8, 10, 11, 12, 13, 14, 39, 40] ∧ lookK kp35 18 = some [1, 2, 8, 10, 11, 12, 13, 14, 15, 16, 39, 40] ∧ lookK kp35 19 = some [1, 2, 8, 10, 11, 12, 13, 14, 15, 39, 40, 70] ∧ lookK kp35 20 = some [1, 2, 8, 10, 11, 12, 13, 14, 39, 40] ∧ lookK kp35 21 = some [1, 2, 8, 10, 39, 40] ∧ lookK kp35 22 = some [1, 2, 8, 10, 39, 40] ∧ lookK kp35 23 = some [2, 10, 17] ∧ lookK kp35 24 = some [4, 5, 6] := ⟨rfl, rfl, rfl, rfl, rfl, rfl, rfl, rfl, rfl, rfl, rfl, rfl, rfl, rfl, rfl, rfl, rfl, rfl, rfl, rfl, rfl, rfl, rfl, rfl, rfl⟩

theorem bstF_congr {p : Int → Int → Bool} {V W : Nat → Int} : ∀ {n : Nat}, (∀ i, i < n → V i = W i) → bstF p V n = bstF p W n
  | 0, _ => rfl
  | n + 1, h => by
    have ih := bstF_congr (p := p) (n := n) (fun i hi => h i (by omega))
    rw [bstF, bstF, ih, h n (by omega)]
    by_cases e : n = 0
    · subst e; rw [show bstF p W 0 = 0 from rfl, h 0 (by omega)]
    · have := bstF_lt p W n (by omega)
      rw [h (bstF p W n) (by omega)]
def gtB (x y : Int) : Bool := decide (y < x)
def ltB (x y : Int) : Bool := decide (x < y)
/-- The greatest of a list. -/
def mxv (l : List Int) : Int := gI l (bstF gtB (gI l) l.length)
theorem mxv_app {l : List Int} (h : 0 < l.length) (w : Int) : mxv (l ++ [w]) = max (mxv l) w := by
  have g1 : ∀ i, i < l.length → gI (l ++ [w]) i = gI l i := fun i hi => by simp [gI, List.getD, List.getElem?_append_left hi]
  have g2 : gI (l ++ [w]) l.length = w := by simp [gI, List.getD]
  have hb := bstF_lt gtB (gI l) l.length h
  unfold mxv
  rw [show (l ++ [w]).length = l.length + 1 by simp, bstF, bstF_congr g1, g2, g1 _ hb]
  have eg : ∀ x y, gtB x y = decide (y < x) := fun _ _ => rfl
  rw [eg]
  by_cases c : gI l (bstF gtB (gI l) l.length) < w
  · rw [decide_eq_true c, if_pos rfl, g2]; omega
  · rw [decide_eq_false c, if_neg (by decide), g1 _ hb]; omega
/-- What a test at a degree can tell. -/
def nxM (l : La) (off : Int) (k j : Nat) : Int := bl l k - off + j
def nxR (l : La) (off : Int) (k j : Nat) : Rg := ⟨max 0 (nxM l off k j), min 200 (nxM l off k j + off)⟩
def nxJ (l : La) (off : Int) (k : Nat) : Nat := (bh l k - (bl l k - off) + 1).toNat
def nxW (l : La) (off : Int) (k : Nat) : Nat → Int
  | 0 => 0
  | j + 1 => if tdO l k (nxR l off k j) then max (nxW l off k j) (tdN l k (nxR l off k j)) else nxW l off k j
def wdL (l : La) (off : Int) (k : Nat) : Nat → List Int
  | 0 => [0]
  | j + 1 => if tdO l k (nxR l off k j) then wdL l off k j ++ [tdN l k (nxR l off k j)] else wdL l off k j
theorem wdL_ne (l : La) (off : Int) (k : Nat) : ∀ j, 0 < (wdL l off k j).length ∧ (wdL l off k j).length ≤ j + 1
  | 0 => ⟨Nat.zero_lt_one, Nat.le_refl _⟩
  | j + 1 => by
    have := wdL_ne l off k j
    rw [wdL]
    split
    · simp; omega
    · omega
theorem wdL_mx (l : La) (off : Int) (k : Nat) : ∀ j, mxv (wdL l off k j) = nxW l off k j
  | 0 => rfl
  | j + 1 => by
    have ih := wdL_mx l off k j
    rw [wdL, nxW]
    split
    · rw [mxv_app (wdL_ne l off k j).1, ih]
    · exact ih
theorem nxR_ok {l : La} (ok : OkLa l) {k : Nat} (hk : k < l.we.length) {off : Int} (h0 : 0 ≤ off) {j : Nat} (hj : j < nxJ l off k) : 0 ≤ (nxR l off k j).lo ∧ (nxR l off k j).lo ≤ (nxR l off k j).hi ∧ (nxR l off k j).hi ≤ 200 := by
  have a := bl_range ok hk
  have b := bh_range ok hk
  unfold nxJ at hj
  unfold nxR nxM
  dsimp only
  omega
/-- By how much a test at a degree narrows at least. -/
def nxA (l : La) (off : Int) (k : Nat) : Int := nxW l off k (nxJ l off k)
def nxK (l : La) (off : Int) : Nat := bstF ltB (nxA l off) l.we.length
def nxE (l : La) (off : Int) : Int := if okLa l = 0 then (if off < 0 ∨ 200 < off then 3 else if dbB l then 21 else 0) else okLa l
def nxD (l : La) (off : Int) : Int := if nxE l off = 0 then gI l.an 0 + nxK l off else 0
def nxN (l : La) (off : Int) : Int := if nxE l off = 0 then nxA l off (nxK l off) else 0
theorem nxE_bad {l : La} (h : ¬ okLa l = 0) (off : Int) : nxE l off = okLa l := by unfold nxE; rw [if_neg h]
theorem nxE_3 {l : La} {off : Int} (h : okLa l = 0) (h2 : off < 0 ∨ 200 < off) : nxE l off = 3 := by unfold nxE; rw [if_pos h, if_pos h2]
theorem nxE_21 {l : La} {off : Int} (h : okLa l = 0) (h2 : ¬ (off < 0 ∨ 200 < off)) (hd : dbB l = true) : nxE l off = 21 := by unfold nxE; rw [if_pos h, if_neg h2, hd]; rfl
theorem nxE_0 {l : La} {off : Int} (h : okLa l = 0) (h2 : ¬ (off < 0 ∨ 200 < off)) (hd : dbB l = false) : nxE l off = 0 := by unfold nxE; rw [if_pos h, if_neg h2, hd]; rfl
theorem nxD_bad {l : La} {off : Int} (h : ¬ nxE l off = 0) : nxD l off = 0 ∧ nxN l off = 0 := by unfold nxD nxN; rw [if_neg h, if_neg h]; exact ⟨rfl, rfl⟩
theorem nxD_0 {l : La} {off : Int} (h : nxE l off = 0) : nxD l off = gI l.an 0 + nxK l off ∧ nxN l off = nxA l off (nxK l off) := by unfold nxD nxN; rw [if_pos h, if_pos h]; exact ⟨rfl, rfl⟩
theorem fl_succ (n : Nat) (f : Nat → Int) : fl (n + 1) f = fl n f ++ [f n] := by simp [fl, List.range_succ]
set_option maxHeartbeats 8000000 in
theorem next35 (l : La) (off : Int) : Pure Try.prog 35 [laV l, I off] (.tup [I (nxD l off), I (nxN l off), I (nxE l off)]) := by
  refine pure_wkE (bad := []) (kp := kp35) (X := tx) (nt := 96) (rs := [.tmp 4, .tmp 5, .tmp 6]) Try.func35 rfl rfl rfl rfl mo (by kernel_rfl) rfl rfl (fun hf => ?_)
  have hl := lamp19 l
  have ho := open57 l
  unfold laV laC at hl ho
  simp (maxSteps := 2000000) only [go_sem, reduceIte, Nat.reduceEqDiff, Nat.reduceAdd, List.replicate_succ, lk35, laV, laC]
  refine aops_pure' (hl) rfl rfl (by first | exact wk_refls _ | (repeat constructor)) ?_
  by_cases h0 : okLa l = 0
  case neg =>
    have e := nxE_bad h0 off
    obtain ⟨e2, e3⟩ := nxD_bad (l := l) (off := off) (by rw [e]; exact h0)
    simp (maxSteps := 2000000) only [go_sem, reduceIte, Nat.reduceEqDiff, Nat.reduceAdd, List.replicate_succ, lk35, h0, e, e2, e3]
    all_goals first | exact .refl _ | exact ⟨.refl _, .refl _⟩ | exact ⟨.refl _, .refl _, .refl _⟩ | exact ⟨.refl _, _, rfl⟩ | exact ⟨_, rfl⟩ | exact ⟨.refl _, [], by simp⟩ | exact ⟨[], by simp⟩
  have ok := okLa_n h0
  by_cases h1 : off < 0
  · have e := nxE_3 h0 (.inl h1)
    obtain ⟨e2, e3⟩ := nxD_bad (l := l) (off := off) (by rw [e]; decide)
    simp (maxSteps := 2000000) only [go_sem, reduceIte, Nat.reduceEqDiff, Nat.reduceAdd, List.replicate_succ, lk35, h0, h1, e, e2, e3]
    all_goals first | exact .refl _ | exact ⟨.refl _, .refl _⟩ | exact ⟨.refl _, .refl _, .refl _⟩ | exact ⟨.refl _, _, rfl⟩ | exact ⟨_, rfl⟩ | exact ⟨.refl _, [], by simp⟩ | exact ⟨[], by simp⟩
  by_cases h2 : 200 < off
  · have e := nxE_3 h0 (.inr h2)
    obtain ⟨e2, e3⟩ := nxD_bad (l := l) (off := off) (by rw [e]; decide)
    simp (maxSteps := 2000000) only [go_sem, reduceIte, Nat.reduceEqDiff, Nat.reduceAdd, List.replicate_succ, lk35, h0, h1, h2, e, e2, e3]
    all_goals first | exact .refl _ | exact ⟨.refl _, .refl _⟩ | exact ⟨.refl _, .refl _, .refl _⟩ | exact ⟨.refl _, _, rfl⟩ | exact ⟨_, rfl⟩ | exact ⟨.refl _, [], by simp⟩ | exact ⟨[], by simp⟩
  have h12 : ¬ (off < 0 ∨ 200 < off) := by omega
  cases hd : dbB l with
  | true =>
    have e := nxE_21 h0 h12 hd
    obtain ⟨e2, e3⟩ := nxD_bad (l := l) (off := off) (by rw [e]; decide)
    have es := spE_21 h0 hd
    rw [opV_bad (by rw [es]; decide), es] at ho
    simp (maxSteps := 2000000) only [go_sem, reduceIte, Nat.reduceEqDiff, Nat.reduceAdd, List.replicate_succ, lk35, h0, h1, h2]
    refine aops_pure' (ho) rfl rfl (by first | exact wk_refls _ | (repeat constructor)) ?_
    simp (maxSteps := 2000000) only [go_sem, reduceIte, Nat.reduceEqDiff, Nat.reduceAdd, Int.reduceEq, List.replicate_succ, lk35, e, e2, e3]
    all_goals first | exact .refl _ | exact ⟨.refl _, .refl _⟩ | exact ⟨.refl _, .refl _, .refl _⟩ | exact ⟨.refl _, _, rfl⟩ | exact ⟨_, rfl⟩ | exact ⟨.refl _, [], by simp⟩ | exact ⟨[], by simp⟩
  | false =>
  have e := nxE_0 h0 h12 hd
  obtain ⟨e2, e3⟩ := nxD_0 (l := l) (off := off) e
  have es := spE_0 h0 hd
  have h10 := ((okLa_iff l).1 h0).2
  rw [opV_0 es, es] at ho
  obtain ⟨n2, n91⟩ := ok.n91
  have hat := fun k hk => at59 l ok k hk
  have hts := fun k hk r hr => tested64 l ok h10 k hk r hr
  have hlo := fun k hk => bl_range ok (k := k) hk
  have hhi := fun k hk => bh_range ok (k := k) hk
  have hle := fun k hk => dbB_no hd (k := k) hk
  unfold tbV rgV rgC at hat
  unfold tbV rgV rgC at hts
  simp (maxSteps := 2000000) only [go_sem, reduceIte, Nat.reduceEqDiff, Nat.reduceAdd, List.replicate_succ, lk35, h0, h1, h2]
  refine aops_pure' (ho) rfl rfl (by first | exact wk_refls _ | (repeat constructor)) ?_
  simp (maxSteps := 2000000) only [go_sem, reduceIte, Nat.reduceEqDiff, Nat.reduceAdd, Nat.reduceBEq, List.replicate_succ, lk35]
  refine goE_loop (bad := []) (kp := kp35) (fun k : Nat => { slots := [(1, I off), (2, .c (.ptr 0 0)), (8, .c (.dp (tbD l))), (10, .c (.own 1 ((fl k (nxA l off)).map iD))), (39, I l.we.length), (40, I k)], heap := [.cells (laC l), .grow k 1], marks := [] }) (fun k => k ≤ l.we.length) (fun k => l.we.length - k) 0 mo (by kernel_rfl) ?_ (Nat.zero_le _) ?_
  · refine Ent.trans (ent_own 10 1 rfl) ?_
    refine ent_weaken [] rfl rfl (Nat.zero_le _) rfl rfl ?_
    simp (maxSteps := 2000000) only [go_sem, reduceIte, Nat.reduceEqDiff, Nat.reduceAdd, Nat.reduceLT, List.replicate_succ, lk35, fl, List.range_zero, laC]
    all_goals first | exact .refl _ | exact ⟨.refl _, .refl _⟩ | exact ⟨.refl _, .refl _, .refl _⟩ | exact ⟨.refl _, _, rfl⟩ | exact ⟨_, rfl⟩ | exact ⟨.refl _, [], by simp⟩ | exact ⟨[], by simp⟩
  rintro k hk
  simp (maxSteps := 2000000) only [go_sem, reduceIte, Nat.reduceEqDiff, Nat.reduceAdd, List.replicate_succ, lk35, laC]
  by_cases hlt : k < l.we.length
  case neg =>
    have hlt' : ¬ (k : Int) < l.we.length := by omega
    have ek : k = l.we.length := by omega
    subst ek
    have hb := best65 (fl l.we.length (nxA l off)) 67 ltB lt67 (by rw [fl_len]; omega)
    have ebk : bstF ltB (gI (fl l.we.length (nxA l off))) (fl l.we.length (nxA l off)).length = nxK l off := by
      rw [fl_len]; exact bstF_congr fun i hi => fl_get _ hi
    rw [ebk] at hb
    have hkl : nxK l off < l.we.length := bstF_lt ltB _ _ (by omega)
    have hkl' : (nxK l off : Int) < l.we.length := by omega
    have fll := fl_len l.we.length (nxA l off)
    have g1 := gI_lt (l := fl l.we.length (nxA l off)) (i := nxK l off) (by rw [fll]; exact hkl)
    rw [fl_get _ hkl] at g1
    have m2 := ok.m2
    have p0 : (0 : Int) < l.an.length := by omega
    have a0 := gI_lt (l := l.an) (i := 0) (by omega)
    have b0 := ok.a0 0 (by omega)
    have w1 : wr .i64 (gI l.an 0 + nxK l off) = nxD l off := by rw [wr_in (by omega), e2]
    rw [← e3] at g1
    unfold ints at hb
    generalize fl l.we.length (nxA l off) = L at *
    simp (maxSteps := 2000000) only [go_sem, reduceIte, Nat.reduceEqDiff, Nat.reduceAdd, Int.reduceLE, Int.reduceToNat, List.replicate_succ, lk35, hlt']
    refine aops_pure' (hb) rfl rfl (by first | exact wk_refls _ | (repeat constructor)) ?_
    simp (maxSteps := 2000000) only [go_sem, reduceIte, Nat.reduceEqDiff, Nat.reduceAdd, Nat.reduceLeDiff, Nat.reduceBEq, List.replicate_succ, lk35, p0, a0, nn, iD, w1, fll, hkl', g1, e]
    all_goals first | exact .refl _ | exact ⟨.refl _, .refl _⟩ | exact ⟨.refl _, .refl _, .refl _⟩ | exact ⟨.refl _, _, rfl⟩ | exact ⟨_, rfl⟩ | exact ⟨.refl _, [], by simp⟩ | exact ⟨[], by simp⟩
  have hlt' : (k : Int) < l.we.length := by omega
  have hatk := hat k hlt
  have htk := hts k hlt
  have hlok := hlo k hlt
  have hhik := hhi k hlt
  have hlek := hle k hlt
  have m1 : l.we.length - (k + 1) < l.we.length - k := by omega
  have w0 : wr .i64 (bl l k - off) = nxM l off k 0 := by rw [wr_in (by omega)]; unfold nxM; omega
  simp (maxSteps := 2000000) only [go_sem, reduceIte, Nat.reduceEqDiff, Nat.reduceAdd, Nat.reduceLeDiff, Nat.reduceBEq, Nat.reduceMul, List.replicate_succ, lk35, hlt']
  refine aops_pure' (hatk) rfl rfl (by first | exact wk_refls _ | (repeat constructor)) ?_
  simp (maxSteps := 2000000) only [go_sem, reduceIte, Nat.reduceEqDiff, Nat.reduceAdd, Nat.reduceLeDiff, Nat.reduceBEq, List.replicate_succ, lk35, w0]
  clear w0
  have wl := wdL_ne l off k
  have hJ : nxJ l off k ≤ 401 := by unfold nxJ; omega
  refine goE_loop (bad := []) (kp := kp35) (fun j : Nat => { slots := [(1, I off), (2, .c (.ptr 0 0)), (8, .c (.dp (tbD l))), (10, .c (.own 1 ((fl k (nxA l off)).map iD))), (11, I k), (12, .c (.ptr 2 0)), (13, .c (.own 3 ((wdL l off k j).map iD))), (14, I (nxM l off k j)), (39, I l.we.length), (40, I k)], heap := [.cells (laC l), .grow k 1, .cells [.d (.int .i64 (bl l k)), .d (.int .i64 (bh l k))], .grow (wdL l off k j).length 1], marks := [] }) (fun j => j ≤ nxJ l off k) (fun j => nxJ l off k - j) 0 mo (by kernel_rfl) ?_ (Nat.zero_le _) ?_
  · refine Ent.trans (ent_own 13 1 rfl) ?_
    refine ent_weaken [] rfl rfl (Nat.zero_le _) rfl rfl ?_
    simp (maxSteps := 2000000) only [go_sem, reduceIte, Nat.reduceEqDiff, Nat.reduceAdd, Nat.reduceLT, List.replicate_succ, lk35, laC, wdL]
    all_goals first | exact .refl _ | exact ⟨.refl _, .refl _⟩ | exact ⟨.refl _, .refl _, .refl _⟩ | exact ⟨.refl _, _, rfl⟩ | exact ⟨_, rfl⟩ | exact ⟨.refl _, [], by simp⟩ | exact ⟨[], by simp⟩
  rintro j hj
  simp (maxSteps := 2000000) only [go_sem, reduceIte, Nat.reduceEqDiff, Nat.reduceAdd, Nat.reduceBEq, List.replicate_succ, lk35, laC]
  have hMJ : nxM l off k j ≤ bh l k ↔ j < nxJ l off k := by unfold nxM nxJ; omega
  have hMr : -1000 ≤ nxM l off k j ∧ nxM l off k j ≤ 1000 := by unfold nxM; omega
  by_cases hjl : j < nxJ l off k
  · have hjl' := hMJ.2 hjl
    have ht := htk (nxR l off k j) (nxR_ok ok hlt (by omega) hjl)
    have ewd : wdL l off k (j + 1) = if tdO l k (nxR l off k j) then wdL l off k j ++ [tdN l k (nxR l off k j)] else wdL l off k j := rfl
    have hM1 : wr .i64 (nxM l off k j + 1) = nxM l off k (j + 1) := by rw [wr_in (by omega)]; unfold nxM; omega
    have wo : wr .i64 (nxM l off k j + off) = nxM l off k j + off := wr_in (by clear hM1; omega)
    have mj : nxJ l off k - (j + 1) < nxJ l off k - j := by clear hM1 wo; omega
    have eR : nxR l off k j = ⟨max 0 (nxM l off k j), min 200 (nxM l off k j + off)⟩ := rfl
    have ap : ((((wdL l off k j).all fun x => (iD x).length == 1) && decide (((wdL l off k j).length + 1 + ((wdL l off k j).length + 1) / 4 + 256) * 8 ≤ 281474976710656)) && decide ((wdL l off k j).length ≤ 140737488355327)) = true := by
      have := wl j
      simp [iD]; omega
    rw [eR] at ht ewd
    dsimp only at ht
    simp (maxSteps := 2000000) only [go_sem, reduceIte, Nat.reduceEqDiff, Nat.reduceAdd, Nat.reduceLeDiff, Nat.reduceBEq, List.replicate_succ, lk35, hjl', wo, maxL1, minL1]
    refine aops_pure' (ht) rfl rfl (by first | exact wk_refls _ | (repeat constructor)) ?_
    cases htd : tdO l k ⟨max 0 (nxM l off k j), min 200 (nxM l off k j + off)⟩ with
    | true =>
      rw [htd, if_pos rfl] at ewd
      simp (maxSteps := 2000000) only [go_sem, reduceIte, Nat.reduceEqDiff, Nat.reduceAdd, Nat.reduceLT, Nat.reduceLeDiff, Nat.reduceBEq, Nat.reduceMul, List.replicate_succ, lk35, hM1]
      refine ⟨ap, j + 1, hjl, mj, ?_⟩
      refine ent_weaken [] (by rw [ewd, List.length_append]; rfl) rfl (Nat.zero_le _) rfl rfl ?_
      simp (maxSteps := 2000000) only [go_sem, reduceIte, Nat.reduceEqDiff, Nat.reduceAdd, Nat.reduceLT, List.replicate_succ, lk35, ewd, List.map_append, iD, laC]
      all_goals first | exact .refl _ | exact ⟨.refl _, .refl _⟩ | exact ⟨.refl _, .refl _, .refl _⟩ | exact ⟨.refl _, _, rfl⟩ | exact ⟨_, rfl⟩ | exact ⟨.refl _, [], by simp⟩ | exact ⟨[], by simp⟩
    | false =>
      rw [htd, if_neg (by decide)] at ewd
      simp (maxSteps := 2000000) only [go_sem, reduceIte, Nat.reduceEqDiff, Nat.reduceAdd, List.replicate_succ, lk35, hM1]
      refine ⟨j + 1, hjl, mj, ?_⟩
      refine ent_weaken [] (by rw [ewd]; rfl) rfl (Nat.zero_le _) rfl rfl ?_
      simp (maxSteps := 2000000) only [go_sem, reduceIte, Nat.reduceEqDiff, Nat.reduceAdd, Nat.reduceLT, List.replicate_succ, lk35, ewd, laC]
      all_goals first | exact .refl _ | exact ⟨.refl _, .refl _⟩ | exact ⟨.refl _, .refl _, .refl _⟩ | exact ⟨.refl _, _, rfl⟩ | exact ⟨_, rfl⟩ | exact ⟨.refl _, [], by simp⟩ | exact ⟨[], by simp⟩
  · have hjl' : ¬ nxM l off k j ≤ bh l k := fun h => hjl (hMJ.1 h)
    have ej : j = nxJ l off k := by omega
    have hwl := wl j
    have hb := best65 (wdL l off k j) 66 gtB gt66 (by omega)
    have hbl := bstF_lt gtB (gI (wdL l off k j)) (wdL l off k j).length hwl.1
    have hmx : gI (wdL l off k j) (bstF gtB (gI (wdL l off k j)) (wdL l off k j).length) = nxA l off k := by
      have := wdL_mx l off k j
      unfold mxv at this
      rw [this, ej]; rfl
    have g1 := gI_lt hbl
    rw [hmx] at g1
    have hbl' : ((bstF gtB (gI (wdL l off k j)) (wdL l off k j).length : Nat) : Int) < (wdL l off k j).length := by omega
    have es := fl_succ k (nxA l off)
    have el := fl_len k (nxA l off)
    have ap : ((((fl k (nxA l off)).all fun x => (iD x).length == 1) && decide ((k + 1 + (k + 1) / 4 + 256) * 8 ≤ 281474976710656)) && decide (k ≤ 140737488355327)) = true := by
      simp [iD]; omega
    have w7 := wr_succ hlt (Nat.le_trans n91 (by decide))
    unfold ints at hb
    generalize bstF gtB (gI (wdL l off k j)) (wdL l off k j).length = q at *
    generalize wdL l off k j = WL at *
    simp (maxSteps := 2000000) only [go_sem, reduceIte, Nat.reduceEqDiff, Nat.reduceAdd, Int.reduceLE, Int.reduceToNat, List.replicate_succ, lk35, hjl']
    refine aops_pure' (hb) rfl rfl (by first | exact wk_refls _ | (repeat constructor)) ?_
    simp (maxSteps := 2000000) only [go_sem, reduceIte, Nat.reduceEqDiff, Nat.reduceLT, Nat.reduceLeDiff, Nat.reduceBEq, Nat.reduceMul, List.replicate_succ, lk35, nn, hbl', g1, iD, el, w7]
    refine ⟨ap, k + 1, hlt, m1, ?_⟩
    refine ent_weaken [_, _] rfl rfl (Nat.zero_le _) rfl rfl ?_
    simp (maxSteps := 2000000) only [go_sem, reduceIte, Nat.reduceEqDiff, Nat.reduceAdd, Nat.reduceLT, List.replicate_succ, lk35, es, List.map_append, iD, laC]
    all_goals first | exact .refl _ | exact ⟨.refl _, .refl _⟩ | exact ⟨.refl _, .refl _, .refl _⟩ | exact ⟨.refl _, _, rfl⟩ | exact ⟨_, rfl⟩ | exact ⟨.refl _, [], by simp⟩ | exact ⟨[], by simp⟩
end Go.Proofs.Ytliamojogmlgjaa
