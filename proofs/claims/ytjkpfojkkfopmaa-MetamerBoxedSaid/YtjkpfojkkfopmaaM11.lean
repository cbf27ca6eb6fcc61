/- Metamers: the spectra of all sets. -/
import Derived.Test.YtjkpfojkkfopmaaM10
set_option linter.unusedSimpArgs false
set_option linter.unusedVariables false
set_option maxRecDepth 100000
namespace Go.Proofs.Ytjkpfojkkfopmaa
open Go Go.Abs Go.Proofs
def kp69 : List (Nat × List Nat) := [(0, [1]), (1, [1, 3]), (2, [3, 19, 20, 21]), (3, [3, 19, 20, 21, 22]), (4, [3, 5, 19, 20, 21]), (5, [3, 5, 19, 20, 21, 30, 31, 32]), (6, [3, 5, 19, 20, 21, 30, 31, 32, 33]), (7, [3, 5, 7, 19, 20, 21, 30, 31, 32]), (8, [3, 5, 7, 8, 19, 20, 21, 30, 31, 32]), (9, [3, 5, 8, 19, 20, 21, 30, 31, 32]), (10, [3, 5, 8, 19, 20, 21, 30, 31, 32, 42, 43, 44]), (11, [3, 5, 8, 19, 20, 21, 30, 31, 32, 42, 43, 44, 45]), (12, [3, 5, 8, 9, 10, 19, 20, 21, 30, 31, 32, 42, 43, 44]), (13, [3, 5, 8, 19, 20, 21, 30, 31, 32, 42, 43, 44]), (14, [3, 5, 8, 19, 20, 21, 30, 31, 32, 42, 43, 44]), (15, [3, 5, 19, 20, 21, 30, 31, 32]), (16, [3, 5, 19, 20, 21, 30, 31, 32]), (17, [3, 19, 20, 21]), (18, [2])]
theorem lk69 : lookK kp69 0 = some [1] ∧ lookK kp69 1 = some [1, 3] ∧ lookK kp69 2 = some [3, 19, 20, 21] ∧ lookK kp69 3 = some [3, 19, 20, 21, 22] ∧ lookK kp69 4 = some [3, 5, 19, 20, 21] ∧ lookK kp69 5 = some [3, 5, 19, 20, 21, 30, 31, 32] ∧ lookK kp69 6 = some [3, 5, 19, 20, 21, 30, 31, 32, 33] ∧ lookK kp69 7 = some [3, 5, 7, 19, 20, 21, 30, 31, 32] ∧ lookK kp69 8 = some [3, 5, 7, 8, 19, 20, 21, 30, 31, 32] ∧ lookK kp69 9 = some [3, 5, 8, 19, 20, 21, 30, 31, 32] ∧ lookK kp69 10 = some [3, 5, 8, 19, 20, 21, 30, 31, 32, 42, 43, 44] ∧ lookK kp69 11 = some [3, 5, 8, 19, 20, 21, 30, 31, 32, 42, 43, 44, 45] ∧ lookK kp69 12 = some [3, 5, 8, 9, 10, 19, 20, 21, 30, 31, 32, 42, 43, 44] ∧ lookK kp69 13 = some [3, 5, 8, 19, 20, 21, 30, 31, 32, 42, 43, 44] ∧ lookK kp69 14 = some [3, 5, 8, 19, 20, 21, 30, 31, 32, 42, 43, 44] ∧ lookK kp69 15 = some [3, 5, 19, 20, 21, 30, 31, 32] ∧ lookK kp69 16 = some [3, 5, 19, 20, 21, 30, 31, 32] ∧ lookK kp69 17 = some [3, 19, 20, 21] ∧ lookK kp69 18 = some [2] := ⟨rfl, rfl, rfl, rfl, rfl, rfl, rfl, rfl, rfl, rfl, rfl, rfl, rfl, rfl, rfl, rfl, rfl, rfl, rfl⟩

def mixS (p : Pal) (i s : Nat) : List Int := (List.range p.n).map (sumB p s i)
theorem mixS_len (p : Pal) (i s : Nat) : (mixS p i s).length = p.n := by simp [mixS]
theorem sumB_congr {p : Pal} {s t : Nat} (b : Nat) : ∀ {k : Nat}, (∀ i, i < k → s.testBit i = t.testBit i) → sumB p s k b = sumB p t k b := fun {k} h => sumF_congr fun i hi => by rw [h i hi]
theorem sumB_lo {p : Pal} {i s : Nat} (b : Nat) (h : s < 2 ^ i) : sumB p s (i + 1) b = sumB p s i b := by
  have e : sumB p s (i + 1) b = sumB p s i b + if s.testBit i then gI (p.row i) b else 0 := rfl
  rw [e, Nat.testBit_lt_two_pow h]; simp
theorem sumB_hi {p : Pal} {i s : Nat} (b : Nat) (h : s < 2 ^ i) : sumB p (2 ^ i + s) (i + 1) b = sumB p s i b + gI (p.row i) b := by
  have e : sumB p (2 ^ i + s) (i + 1) b = sumB p (2 ^ i + s) i b + if (2 ^ i + s).testBit i then gI (p.row i) b else 0 := rfl
  rw [e, Nat.testBit_two_pow_add_eq, Nat.testBit_lt_two_pow h, sumB_congr b (t := s) (fun j hj => Nat.testBit_two_pow_add_gt hj s)]
  simp
def rowsM (p : Pal) (i : Nat) : List (List D) := (List.range (2 ^ i)).map (fun s => rowI (mixS p i s))
def rowsN (p : Pal) (i s : Nat) : List (List D) := rowsM p i ++ (List.range s).map (fun j => rowI (mixS p (i + 1) (2 ^ i + j)))
theorem rowsM_len (p : Pal) (i : Nat) : (rowsM p i).length = 2 ^ i := by simp [rowsM]
theorem rowsN_len (p : Pal) (i s : Nat) : (rowsN p i s).length = 2 ^ i + s := by simp [rowsN, rowsM_len]
theorem rowsM_one (p : Pal) (i : Nat) : (rowsM p i).all (fun r => r.length == 1) = true := by simp [rowsM, rowI]
theorem rowsN_one (p : Pal) (i s : Nat) : (rowsN p i s).all (fun r => r.length == 1) = true := by simp [rowsN, rowsM, rowI]
theorem rowsM_get {p : Pal} {i s : Nat} (h : s < 2 ^ i) : (rowsM p i)[s]? = some (rowI (mixS p i s)) := by simp [rowsM, h]
theorem rowsN_zero (p : Pal) (i : Nat) : rowsN p i 0 = rowsM p i := by simp [rowsN]
theorem rowsN_succ (p : Pal) (i s : Nat) : rowsN p i (s + 1) = rowsN p i s ++ [rowI (mixS p (i + 1) (2 ^ i + s))] := by
  rw [rowsN, rowsN, range_succ_map, List.append_assoc]
theorem rowsN_all (p : Pal) (i : Nat) : rowsN p i (2 ^ i) = rowsM p (i + 1) := by
  have e : 2 ^ (i + 1) = 2 ^ i + 2 ^ i := by rw [Nat.pow_succ]; omega
  rw [rowsN, rowsM, rowsM, e, List.range_add, List.map_append, List.map_map]
  congr 1
  refine List.map_congr_left fun s hs => ?_
  simp only [List.mem_range] at hs
  have : mixS p i s = mixS p (i + 1) s := List.map_congr_left fun b _ => (sumB_lo b hs).symm
  rw [this]
def mixL (p : Pal) : List (List Int) := (List.range (2 ^ p.pig.length)).map (sumL p)
theorem rowsM_end (p : Pal) : rowsM p p.pig.length = (mixL p).map rowI := by rw [mixL, List.map_map]; rfl
def addM (p : Pal) (s i b : Nat) : Nat → Int := fun k => if k < b then sumB p s i k + gI (p.row i) k else sumB p s i k
theorem addM_zero (p : Pal) (s i : Nat) : addM p s i 0 = sumB p s i := by funext k; simp [addM]
theorem addM_at (p : Pal) (s i b : Nat) : addM p s i b b = sumB p s i b := by simp [addM]
theorem addM_upd {p : Pal} {s i b : Nat} {v : Int} (h : v = sumB p s i b + gI (p.row i) b) : upd (addM p s i b) b v = addM p s i (b + 1) := by
  funext k
  by_cases e : k = b
  · subst e; rw [upd_same, h]; simp [addM]
  · rw [upd_ne _ _ e]
    simp only [addM]
    have : k < b + 1 ↔ k < b := by omega
    simp only [this]
theorem addM_all {p : Pal} {s i : Nat} (h : s < 2 ^ i) : (List.range p.n).map (fun k => iD (addM p s i p.n k)) = (mixS p (i + 1) (2 ^ i + s)).map iD := by
  rw [mixS, List.map_map]
  refine List.map_congr_left fun k hk => ?_
  simp only [List.mem_range] at hk
  simp only [Function.comp_def, addM, hk, if_true, sumB_hi k h]
theorem mix_nums (p : Pal) (i s : Nat) : numsC p.n (gI (mixS p i s)) = numsC p.n (sumB p s i) := by
  rw [numsC, numsC, numsD_congr (g := sumB p s i) fun k hk => gI_get (by simp [mixS, hk])]
theorem src_mix (H : List AB) (p : Pal) (i s : Nat) : srcCells H 1 p.n (.d (.sl ((mixS p i s).map iD))) = some (numsC p.n (sumB p s i)) := by
  have := src_ints H (mixS p i s)
  rw [mixS_len, mix_nums] at this
  exact this
theorem fz_nums' (id n : Nat) (f : Nat → Int) (l : List Int) (h : n ≤ lim) (hl : (List.range n).map (fun k => iD (f k)) = l.map iD) : FzV id (numsD n f) (.c (.ms id 0 n n)) (ints l) := by
  have e : (V.c (.d (.sl (chunk 1 n ((numsD n f).drop 0))))) = ints l := by rw [List.drop_zero, chunk_nums, hl]; rfl
  rw [← e]
  exact .c (.ms 0 1 n n (by rw [numsD_len]; omega) (Nat.le_refl _) h)

theorem grow_ok {m t : Nat} (h : m ≤ 4096) (ht : t < m) : (decide ((m + t + 1 + (m + t + 1) / 4 + 256) * 24 ≤ 281474976710656) && decide (m + t ≤ 140737488355327)) = true := by
  simp; omega
set_option maxHeartbeats 8000000 in
theorem mixes69 (p : Pal) (hp : OkP p) : Pure Try.prog 69 [palV p] (intss (mixL p)) := by
  refine pure_wkE (bad := [10001, 10011]) (kp := kp69) (X := tx) (nt := 64) (rs := [.tmp 2]) Try.func69 rfl rfl rfl rfl mo (by kernel_rfl) rfl rfl (fun hf => ?_)
  have h8 := hp.n8
  have h12 := hp.k12
  have hk1 := hp.k1
  have g0 := (hp.at' hp.k1).1
  have en : (p.row 0).length = p.n := rfl
  have k0 : (0 : Int) < p.pig.length := by omega
  have d2 : decide (0 ≤ (p.n : Int)) = true := by simp
  simp (maxSteps := 2000000) only [go_sem, reduceIte, Nat.reduceEqDiff, Nat.reduceAdd, Nat.reduceLT, Nat.reduceLeDiff, Nat.reduceBEq, Nat.reduceMul, Int.reduceLE, Int.reduceToNat, lk69, palV, palC, g0, k0, rowI, en, rep_nums, nn, Int.toNat_natCast]
  refine ⟨by rw [Bool.and_eq_true, Bool.and_eq_true]; exact ⟨⟨decide_eq_true (Int.le_refl _), decide_eq_true (by show (8 : Int) * _ ≤ _; omega)⟩, decide_eq_true (by show (_ : Int) ≤ 140737488355328; omega)⟩, ?_⟩
  have hz : (List.range p.n).map (fun k => iD ((fun _ => (0 : Int)) k)) = (mixS p 0 0).map iD := by rw [mixS, List.map_map]; rfl
  have hlowH : ∀ (T : List AB), T.all (AB.low (3 + T.length)) = true → ([AB.cells (palC p), AB.gone, AB.grow 0 1] ++ T).all (AB.low (3 + T.length)) = true := fun T h => by rw [List.all_append, h]; rfl
  refine stop_mk { slots := [(1, .c (.ptr 0 0)), (3, .c (.own 2 (rowsM p 0)))], heap := [.cells (palC p), .gone, .grow 1 1], marks := [] } ?_ ?_
  · refine Ent.trans (ent_freeze 1 (s' := { slots := [(1, .c (.ptr 0 0)), (3, .c (.fs 1 1 [.d (.sl ((mixS p 0 0).map iD))]))], heap := [.cells (palC p), .gone], marks := [] }) (cs := numsC p.n (fun _ => 0)) rfl (toDs_d _) rfl rfl ⟨.same _, .c (.fs 1 1 rfl (fun i x y hx hy => ?_)), trivial⟩) ?_
    · cases i with
      | zero =>
        simp at hx hy; subst hx; subst hy
        have h := fz_nums' 1 p.n (fun _ => 0) (mixS p 0 0) (by unfold lim; omega) hz
        cases h with
        | c h => exact h
      | succ i => simp at hx
    refine Ent.trans (ent_fsd 3 (n := 1) (sz := 1) (ds := [.sl ((mixS p 0 0).map iD)]) (by unfold lim; omega) rfl) ?_
    exact ent_own 3 1 rfl
  simp (maxSteps := 2000000) only [go_sem, reduceIte, Nat.reduceEqDiff, Nat.reduceAdd, Nat.reduceLeDiff, Nat.reduceBEq, lk69, palC]
  refine goE_loop (bad := [10001, 10011]) (kp := kp69) (fun i : Nat => { slots := [(3, .c (.own 2 (rowsM p i))), (19, intss p.pig), (20, I p.pig.length), (21, I i)], heap := [.cells (palC p), .gone, .grow (2 ^ i) 1], marks := [] }) (fun i => i ≤ p.pig.length) (fun i => p.pig.length - i) 0 mo (by kernel_rfl) ?_ (Nat.zero_le _) ?_
  · refine ent_weaken [] rfl rfl (Nat.zero_le _) rfl rfl ?_
    simp (maxSteps := 2000000) only [go_sem, reduceIte, Nat.reduceEqDiff, Nat.reduceAdd, Nat.reduceLT, lk69, palC, intss]
    all_goals first | exact .refl _ | exact ⟨.refl _, .refl _⟩ | exact ⟨.refl _, .refl _, .refl _⟩ | exact ⟨.refl _, _, rfl⟩ | exact ⟨_, rfl⟩ | exact ⟨.refl _, [], by simp⟩ | exact ⟨[], by simp⟩
  rintro i hi
  simp (maxSteps := 2000000) only [go_sem, reduceIte, Nat.reduceEqDiff, Nat.reduceAdd, Nat.reduceBEq, lk69, palC, intss]
  by_cases hlt : i < p.pig.length
  case neg =>
    have hlt' : ¬ (i : Int) < p.pig.length := by omega
    have e : i = p.pig.length := by omega
    subst e
    simp (maxSteps := 2000000) only [go_sem, reduceIte, Nat.reduceEqDiff, Nat.reduceAdd, Nat.reduceBEq, lk69, hlt', rowsM_end]
    all_goals first | exact .refl _ | exact ⟨.refl _, .refl _⟩ | exact ⟨.refl _, .refl _, .refl _⟩ | exact ⟨.refl _, _, rfl⟩ | exact ⟨_, rfl⟩ | exact ⟨.refl _, [], by simp⟩ | exact ⟨[], by simp⟩
  have hlt' : (i : Int) < p.pig.length := by omega
  obtain ⟨g1, gl⟩ := hp.at' hlt
  have m1 : p.pig.length - (i + 1) < p.pig.length - i := by omega
  have w3 : wr .i64 ((i : Int) + 1) = ((i + 1 : Nat) : Int) := wr_succ hlt (by omega)
  have hpw := pow12 (show i ≤ 12 by omega)
  have e2 : 2 ^ (i + 1) = 2 ^ i + 2 ^ i := by rw [Nat.pow_succ]; omega
  have rl := rowsM_len p i
  have r1 := rowsM_one p i
  have tk : List.take (2 ^ i) (rowsM p i) = rowsM p i := List.take_of_length_le (by omega)
  simp (maxSteps := 2000000) only [go_sem, reduceIte, Nat.reduceEqDiff, Nat.reduceAdd, Nat.reduceBEq, Int.reduceLE, Int.reduceToNat, lk69, hlt', g1, rowI, nn, rl, r1, Int.toNat_natCast, tk, List.drop_zero]
  refine ⟨decide_eq_true (Int.le_refl _), ?_⟩
  refine goE_loop (bad := [10001, 10011]) (kp := kp69) (fun t : Nat => { slots := [(3, .c (.own 2 (rowsN p i t))), (5, ints (p.row i)), (19, intss p.pig), (20, I p.pig.length), (21, I i), (30, .c (.full (rowsM p i))), (31, I ((2 ^ i : Nat) : Int)), (32, I t)], heap := [.cells (palC p), .gone, .grow (2 ^ i + t) 1], marks := [] }) (fun t => t ≤ 2 ^ i) (fun t => 2 ^ i - t) 0 mo (by kernel_rfl) ?_ (Nat.zero_le _) ?_
  · refine ent_weaken [] rfl rfl (Nat.zero_le _) rfl rfl ?_
    simp (maxSteps := 2000000) only [go_sem, reduceIte, Nat.reduceEqDiff, Nat.reduceAdd, Nat.reduceLT, lk69, palC, intss, ints, rowsN_zero]
    all_goals first | exact .refl _ | exact ⟨.refl _, .refl _⟩ | exact ⟨.refl _, .refl _, .refl _⟩ | exact ⟨.refl _, _, rfl⟩ | exact ⟨_, rfl⟩ | exact ⟨.refl _, [], by simp⟩ | exact ⟨[], by simp⟩
  rintro t ht
  simp (maxSteps := 2000000) only [go_sem, reduceIte, Nat.reduceEqDiff, Nat.reduceAdd, Nat.reduceBEq, lk69, palC, intss, ints]
  by_cases hlt2 : t < 2 ^ i
  case neg =>
    have hlt2' : ¬ (t : Int) < ((2 ^ i : Nat) : Int) := by omega
    have e : t = 2 ^ i := by omega
    subst e
    simp (maxSteps := 2000000) only [go_sem, reduceIte, Nat.reduceEqDiff, Nat.reduceAdd, Nat.reduceBEq, lk69, hlt2', w3]
    refine ⟨i + 1, hlt, m1, ?_⟩
    refine ent_weaken [] (by rw [e2]; rfl) rfl (Nat.zero_le _) rfl rfl ?_
    simp (maxSteps := 2000000) only [go_sem, reduceIte, Nat.reduceEqDiff, Nat.reduceAdd, Nat.reduceLT, lk69, palC, intss, ints, rowsN_all]
    all_goals first | exact .refl _ | exact ⟨.refl _, .refl _⟩ | exact ⟨.refl _, .refl _, .refl _⟩ | exact ⟨.refl _, _, rfl⟩ | exact ⟨_, rfl⟩ | exact ⟨.refl _, [], by simp⟩ | exact ⟨[], by simp⟩
  have hlt2' : (t : Int) < ((2 ^ i : Nat) : Int) := by omega
  have g2 := rowsM_get hlt2 (p := p)
  have m2 : 2 ^ i - (t + 1) < 2 ^ i - t := by omega
  have w4 : wr .i64 ((t : Int) + 1) = ((t + 1 : Nat) : Int) := wr_succ hlt2 (by omega)
  have nl := rowsN_len p i t
  have n1 := rowsN_one p i t
  have mL := mixS_len p i t
  simp (maxSteps := 2000000) only [go_sem, reduceIte, Nat.reduceEqDiff, Nat.reduceAdd, Nat.reduceLT, Nat.reduceBEq, lk69, hlt2', g2, rowI, nn, rl, r1, Int.toNat_natCast, mL, rep_nums, src_mix, set_ints, Nat.min_self, List.length_map, numsC_len, Nat.le_refl]
  refine ⟨?_, by simp, ?_⟩
  · rw [Bool.and_eq_true, Bool.and_eq_true]; exact ⟨⟨decide_eq_true (Int.le_refl _), decide_eq_true (by show (8 : Int) * _ ≤ _; omega)⟩, decide_eq_true (by show (_ : Int) ≤ 140737488355328; omega)⟩
  refine goE_loop (bad := [10001, 10011]) (kp := kp69) (fun b : Nat => { slots := [(3, .c (.own 2 (rowsN p i t))), (5, ints (p.row i)), (8, .c (.ms 3 0 p.n p.n)), (19, intss p.pig), (20, I p.pig.length), (21, I i), (30, .c (.full (rowsM p i))), (31, I ((2 ^ i : Nat) : Int)), (32, I t), (42, ints (p.row i)), (43, I p.n), (44, I b)], heap := [.cells (palC p), .gone, .grow (2 ^ i + t) 1, .cells (numsC p.n (addM p t i b))], marks := [] }) (fun b => b ≤ p.n) (fun b => p.n - b) 0 mo (by kernel_rfl) ?_ (Nat.zero_le _) ?_
  · refine ent_weaken [] (by simp only [addM_zero, List.append_nil, palC]) rfl (Nat.zero_le _) (by simp [AB.low, numsC_low, palC, C.lowL, C.low]) rfl ?_
    simp (maxSteps := 2000000) only [go_sem, reduceIte, Nat.reduceEqDiff, Nat.reduceAdd, Nat.reduceLT, lk69, palC, intss, ints, gl]
    all_goals first | exact .refl _ | exact ⟨.refl _, .refl _⟩ | exact ⟨.refl _, .refl _, .refl _⟩ | exact ⟨.refl _, _, rfl⟩ | exact ⟨_, rfl⟩ | exact ⟨.refl _, [], by simp⟩ | exact ⟨[], by simp⟩
  rintro b hb
  simp (maxSteps := 2000000) only [go_sem, reduceIte, Nat.reduceEqDiff, Nat.reduceAdd, Nat.reduceBEq, lk69, palC, intss, ints]
  by_cases hlb : b < p.n
  · have hlb' : (b : Int) < p.n := by omega
    have m3 : p.n - (b + 1) < p.n - b := by omega
    have g3 := gI_lt (l := p.row i) (b := b) (by omega)
    have g4 := numsC_get (addM p t i b) hlb
    rw [addM_at] at g4
    have c1 : (b : Int) < (p.row i).length := by omega
    have c3 : decide (b + 1 ≤ p.n) = true := by simp; omega
    have b1 := sumB_bound hp t b i
    have b2 := hp.val i b
    have w5 : wr .i64 ((b : Int) + 1) = ((b + 1 : Nat) : Int) := wr_succ hlb (by omega)
    have w1 : wr .i64 (sumB p t i b + gI (p.row i) b) = sumB p t i b + gI (p.row i) b := wr_in (by omega)
    clear b1 b2
    refine stop_mk _ Ent.refl ?_
    simp (maxSteps := 2000000) only [go_sem, reduceIte, Nat.reduceEqDiff, Nat.reduceAdd, Nat.reduceBEq, lk69, hlb', g3, g4, iD, nn, c1, c3, w1, w5, numsC_len, Nat.mul_one, Nat.zero_add]
    refine ⟨b + 1, hlb, m3, ?_⟩
    refine ent_weaken [] (by simp only [numsC_set, addM_upd rfl, List.append_nil, palC]) rfl (Nat.zero_le _) (by simp [AB.low, numsC_low, palC, C.lowL, C.low]) rfl ?_
    simp (maxSteps := 2000000) only [go_sem, reduceIte, Nat.reduceEqDiff, Nat.reduceAdd, Nat.reduceLT, lk69, palC, intss, ints]
    all_goals first | exact .refl _ | exact ⟨.refl _, .refl _⟩ | exact ⟨.refl _, .refl _, .refl _⟩ | exact ⟨.refl _, _, rfl⟩ | exact ⟨_, rfl⟩ | exact ⟨.refl _, [], by simp⟩ | exact ⟨[], by simp⟩
  · have hlb' : ¬ (b : Int) < p.n := by omega
    have e : b = p.n := by omega
    subst e
    simp only [hlb', decide_false]
    refine stop_mk { slots := [(3, .c (.own 2 (rowsN p i t))), (5, ints (p.row i)), (8, ints (mixS p (i + 1) (2 ^ i + t))), (19, intss p.pig), (20, I p.pig.length), (21, I i), (30, .c (.full (rowsM p i))), (31, I ((2 ^ i : Nat) : Int)), (32, I t), (45, B false)], heap := [.cells (palC p), .gone, .grow (2 ^ i + t) 1, .gone], marks := [] } ?_ ?_
    · exact ent_freeze 3 (cs := numsC p.n (addM p t i p.n)) rfl (toDs_d _) rfl rfl ⟨.same _, .same _, fz_nums' _ _ _ _ (by unfold lim; omega) (addM_all hlt2), .same _, .same _, .same _, .same _, .same _, .same _, .same _, trivial⟩
    simp (maxSteps := 2000000) only [go_sem, reduceIte, Nat.reduceEqDiff, Nat.reduceAdd, Nat.reduceLT, Nat.reduceLeDiff, Nat.reduceBEq, Nat.reduceMul, lk69, palC, intss, ints, nl, n1, w4]
    have hq : (decide ((2 ^ i + t + 1 + (2 ^ i + t + 1) / 4 + 256) * 24 ≤ 281474976710656) && decide (2 ^ i + t ≤ 140737488355327)) = true := grow_ok hpw hlt2
    refine ⟨hq, t + 1, hlt2, m2, ?_⟩
    refine ent_weaken [.gone] rfl rfl (Nat.zero_le _) rfl rfl ?_
    simp (maxSteps := 2000000) only [go_sem, reduceIte, Nat.reduceEqDiff, Nat.reduceAdd, Nat.reduceLT, lk69, palC, intss, ints, rowsN_succ, rowI]
    all_goals first | exact .refl _ | exact ⟨.refl _, .refl _⟩ | exact ⟨.refl _, .refl _, .refl _⟩ | exact ⟨.refl _, _, rfl⟩ | exact ⟨_, rfl⟩ | exact ⟨.refl _, [], by simp⟩ | exact ⟨[], by simp⟩
end Go.Proofs.Ytjkpfojkkfopmaa
