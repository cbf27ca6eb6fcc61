/- Metamers: spans. -/
import Derived.Test.YtjkpfojkkfopmaaM6
set_option linter.unusedSimpArgs false
set_option linter.unusedVariables false
set_option maxRecDepth 100000
namespace Go.Proofs.Ytjkpfojkkfopmaa
open Go Go.Abs Go.Proofs
def kp59 : List (Nat × List Nat) := [(0, [1, 2]), (1, [1, 2, 5]), (2, [1, 2, 5, 6]), (3, [1, 2, 5, 6, 12]), (4, [1, 2, 5, 6]), (5, [1, 2, 5, 6, 7]), (6, [1, 2, 5, 6, 7, 18]), (7, [1, 2, 5, 6, 7]), (8, [1, 2, 5, 6, 7, 8]), (9, [1, 2, 5, 6, 7, 8, 9]), (10, [1, 2, 5, 6, 7, 8, 9]), (11, [1, 2, 5, 6, 7]), (12, [4])]
theorem lk59 : lookK kp59 0 = some [1, 2] ∧ lookK kp59 1 = some [1, 2, 5] ∧ lookK kp59 2 = some [1, 2, 5, 6] ∧ lookK kp59 3 = some [1, 2, 5, 6, 12] ∧ lookK kp59 4 = some [1, 2, 5, 6] ∧ lookK kp59 5 = some [1, 2, 5, 6, 7] ∧ lookK kp59 6 = some [1, 2, 5, 6, 7, 18] ∧ lookK kp59 7 = some [1, 2, 5, 6, 7] ∧ lookK kp59 8 = some [1, 2, 5, 6, 7, 8] ∧ lookK kp59 9 = some [1, 2, 5, 6, 7, 8, 9] ∧ lookK kp59 10 = some [1, 2, 5, 6, 7, 8, 9] ∧ lookK kp59 11 = some [1, 2, 5, 6, 7] ∧ lookK kp59 12 = some [4] := ⟨rfl, rfl, rfl, rfl, rfl, rfl, rfl, rfl, rfl, rfl, rfl, rfl, rfl⟩
def kp57 : List (Nat × List Nat) := [(0, [1, 2]), (1, [1, 2, 5, 6]), (2, [2, 5, 6, 21, 22, 23]), (3, [2, 5, 6, 21, 22, 23, 24]), (4, [2, 5, 6, 7, 8, 21, 22, 23]), (5, [2, 5, 6, 21, 22, 23]), (6, [2, 5, 6, 21, 22, 23]), (7, [2, 6, 9, 10]), (8, [9, 10, 11, 12]), (9, [9, 10, 11, 12, 13]), (10, [9, 10, 11, 12, 13, 61, 62]), (11, [9, 10, 11, 12, 13, 61, 62, 63]), (12, [9, 10, 11, 12, 13, 14, 61, 62]), (13, [9, 10, 11, 12, 13, 61, 62]), (14, [9, 10, 11, 12, 13, 61, 62]), (15, [4])]
theorem lk57 : lookK kp57 0 = some [1, 2] ∧ lookK kp57 1 = some [1, 2, 5, 6] ∧ lookK kp57 2 = some [2, 5, 6, 21, 22, 23] ∧ lookK kp57 3 = some [2, 5, 6, 21, 22, 23, 24] ∧ lookK kp57 4 = some [2, 5, 6, 7, 8, 21, 22, 23] ∧ lookK kp57 5 = some [2, 5, 6, 21, 22, 23] ∧ lookK kp57 6 = some [2, 5, 6, 21, 22, 23] ∧ lookK kp57 7 = some [2, 6, 9, 10] ∧ lookK kp57 8 = some [9, 10, 11, 12] ∧ lookK kp57 9 = some [9, 10, 11, 12, 13] ∧ lookK kp57 10 = some [9, 10, 11, 12, 13, 61, 62] ∧ lookK kp57 11 = some [9, 10, 11, 12, 13, 61, 62, 63] ∧ lookK kp57 12 = some [9, 10, 11, 12, 13, 14, 61, 62] ∧ lookK kp57 13 = some [9, 10, 11, 12, 13, 61, 62] ∧ lookK kp57 14 = some [9, 10, 11, 12, 13, 61, 62] ∧ lookK kp57 15 = some [4] := ⟨rfl, rfl, rfl, rfl, rfl, rfl, rfl, rfl, rfl, rfl, rfl, rfl, rfl, rfl, rfl, rfl⟩

theorem minL2 (a b : Int) : minL a [b] = min a b := rfl
theorem maxL2 (a b : Int) : maxL a [b] = max a b := rfl
/-- Two rows of numbers in turn. -/
def zip2 (f g : Nat → Int) : Nat → Int := fun j => if j % 2 = 0 then f (j / 2) else g (j / 2)
theorem zip2_lo (f g : Nat → Int) (i : Nat) : zip2 f g (i * 2) = f i := by
  have h1 : i * 2 % 2 = 0 := by omega
  have h2 : i * 2 / 2 = i := by omega
  simp only [zip2, h1, h2, if_true]
theorem zip2_hi (f g : Nat → Int) (i : Nat) : zip2 f g (i * 2 + 1) = g i := by
  have h1 : ¬ (i * 2 + 1) % 2 = 0 := by omega
  have h2 : (i * 2 + 1) / 2 = i := by omega
  simp only [zip2, h1, h2, if_false]
theorem zip2_ulo (f g : Nat → Int) (i : Nat) (v : Int) : upd (zip2 f g) (i * 2) v = zip2 (upd f i v) g := by
  funext j
  by_cases h : j = i * 2
  · rw [h, upd_same, zip2_lo, upd_same]
  · rw [upd_ne _ _ h]
    simp only [zip2]
    split
    · rw [upd_ne _ _ (by omega)]
    · rfl
theorem zip2_uhi (f g : Nat → Int) (i : Nat) (v : Int) : upd (zip2 f g) (i * 2 + 1) v = zip2 f (upd g i v) := by
  funext j
  by_cases h : j = i * 2 + 1
  · rw [h, upd_same, zip2_hi, upd_same]
  · rw [upd_ne _ _ h]
    simp only [zip2]
    split
    · rfl
    · rw [upd_ne _ _ (by omega)]
def rg3C (f g : Nat → Int) : List C := numsC 6 (zip2 f g)
theorem rg3_low (n : Nat) (f g : Nat → Int) : C.lowL n (rg3C f g) = true := numsC_low _ _ _
theorem rg3_len (f g : Nat → Int) : (rg3C f g).length = 6 := numsC_len _ _
theorem rg3_lo (f g : Nat → Int) {i : Nat} (h : i < 3) : (rg3C f g)[i * 2]? = some (.d (.int .i64 (f i))) := by rw [rg3C, numsC_get _ (by omega), zip2_lo]
theorem rg3_hi (f g : Nat → Int) {i : Nat} (h : i < 3) : (rg3C f g)[i * 2 + 1]? = some (.d (.int .i64 (g i))) := by rw [rg3C, numsC_get _ (by omega), zip2_hi]
theorem rg3_slo (f g : Nat → Int) (i : Nat) (v : Int) : (rg3C f g).set (i * 2) (.d (.int .i64 v)) = rg3C (upd f i v) g := by rw [rg3C, numsC_set, zip2_ulo]; rfl
theorem rg3_shi (f g : Nat → Int) (i : Nat) (v : Int) : (rg3C f g).set (i * 2 + 1) (.d (.int .i64 v)) = rg3C f (upd g i v) := by rw [rg3C, numsC_set, zip2_uhi]; rfl
theorem rg3_chunk (f g : Nat → Int) : chunk 2 3 (numsD 6 (zip2 f g)) = [rgD ⟨f 0, g 0⟩, rgD ⟨f 1, g 1⟩, rgD ⟨f 2, g 2⟩] := rfl
theorem rg3_zero : List.flatten (List.replicate 3 [C.d (.int .i64 0), C.d (.int .i64 0)]) = rg3C (fun _ => 0) (fun _ => 0) := rfl

/-- In the midst of sums, curve by curve. -/
def genM (S : Nat → Nat → Int) (n i b : Nat) : Nat → Int := fun k => if k < i then S k n else if k = i then S k b else 0
theorem genM_zero {S : Nat → Nat → Int} (h : ∀ k, S k 0 = 0) (n : Nat) : genM S n 0 0 = fun _ => 0 := by
  funext k; simp only [genM, Nat.not_lt_zero, if_false]; split
  · exact h k
  · rfl
theorem genM_at (S : Nat → Nat → Int) (n i b : Nat) : genM S n i b i = S i b := by simp [genM]
theorem genM_next {S : Nat → Nat → Int} (h : ∀ k, S k 0 = 0) (n i : Nat) : genM S n i n = genM S n (i + 1) 0 := by
  funext k
  simp only [genM]
  by_cases h1 : k < i
  · simp [h1, show k < i + 1 by omega]
  · by_cases h2 : k = i
    · subst h2; simp
    · by_cases h3 : k = i + 1
      · subst h3; have h4 : ¬ i + 1 < i := by omega
        simp [h, h4]
      · simp [h1, h2, h3, show ¬ k < i + 1 by omega]
theorem genM_upd {S : Nat → Nat → Int} {n i b : Nat} {v : Int} (h : v = S i (b + 1)) : upd (genM S n i b) i v = genM S n i (b + 1) := by
  funext k
  by_cases e : k = i
  · subst e; rw [upd_same, h]; simp [genM]
  · rw [upd_ne _ _ e]; simp only [genM, e, if_false]
theorem rg3_gen (S T : Nat → Nat → Int) (n : Nat) : chunk 2 3 (numsD 6 (zip2 (genM S n 3 0) (genM T n 3 0))) = List.map rgD [⟨S 0 n, T 0 n⟩, ⟨S 1 n, T 1 n⟩, ⟨S 2 n, T 2 n⟩] := rfl

/-- The spans of a spectrum. -/
def spLo (c : Cs) (l : List Int) (k b : Nat) : Int := sumF (fun b => min (pL c k b * gI l b) (pH c k b * gI l b)) b
def spHi (c : Cs) (l : List Int) (k b : Nat) : Int := sumF (fun b => max (pL c k b * gI l b) (pH c k b * gI l b)) b
def spansL (c : Cs) (l : List Int) : List Rg := [⟨spLo c l 0 l.length, spHi c l 0 l.length⟩, ⟨spLo c l 1 l.length, spHi c l 1 l.length⟩, ⟨spLo c l 2 l.length, spHi c l 2 l.length⟩]
theorem spLo_bound {c : Cs} (hc : OkC c) {l : List Int} (hl : Spec l) {k b : Nat} (hk : k < 3) (hb : b ≤ l.length) : -80000000 ≤ spLo c l k b ∧ spLo c l k b ≤ 80000000 := by
  have h := sumF_bound (f := fun b => min (pL c k b * gI l b) (pH c k b * gI l b)) (n := b) (fun j hj => by
    have h1 := mul_bound (hl.g (show j < l.length by omega)) (hc.okL l.length k j hk (by omega))
    have h2 := mul_bound (hl.g (show j < l.length by omega)) (hc.okH l.length k j hk (by omega))
    simp only [Int.mul_comm (pL c k j), Int.mul_comm (pH c k j)]
    omega)
  have := hl.n8
  unfold spLo
  omega
theorem spHi_bound {c : Cs} (hc : OkC c) {l : List Int} (hl : Spec l) {k b : Nat} (hk : k < 3) (hb : b ≤ l.length) : -80000000 ≤ spHi c l k b ∧ spHi c l k b ≤ 80000000 := by
  have h := sumF_bound (f := fun b => max (pL c k b * gI l b) (pH c k b * gI l b)) (n := b) (fun j hj => by
    have h1 := mul_bound (hl.g (show j < l.length by omega)) (hc.okL l.length k j hk (by omega))
    have h2 := mul_bound (hl.g (show j < l.length by omega)) (hc.okH l.length k j hk (by omega))
    simp only [Int.mul_comm (pL c k j), Int.mul_comm (pH c k j)]
    omega)
  have := hl.n8
  unfold spHi
  omega
theorem wr_in {x : Int} (h : -200000000 ≤ x ∧ x ≤ 200000000) : wr .i64 x = x := by rw [wr_i64] <;> omega

set_option maxHeartbeats 4000000 in
theorem spans59 (c : Cs) (l : List Int) (hc : OkC c) (hl : Spec l) (hn : l.length = c.lamp.length) : Pure Try.prog 59 [csV c, ints l] (rgs (spansL c l)) := by
  refine pure_fzE (bad := []) (kp := kp59) (X := tx) (nt := 86) (rs := [.tmp 4]) Try.func59 rfl rfl rfl rfl mo (by kernel_rfl) rfl rfl (fun hf => ?_)
  have hn8 := hl.n8
  have he3 := hc.e3
  simp (maxSteps := 2000000) only [go_sem, reduceIte, Nat.reduceEqDiff, Nat.reduceAdd, Int.reduceLE, Int.reduceToNat, lk59, lk57, csV, csC, ints, rg3_zero]
  refine ⟨by decide, ?_⟩
  refine goE_loop (bad := []) (kp := kp59) (fun i : Nat => { slots := [(1, ints l), (2, .c (.ptr 0 0)), (5, .c (.ms 1 0 3 3)), (6, I i)], heap := [.cells (csC c), .cells (rg3C (genM (spLo c l) l.length i 0) (genM (spHi c l) l.length i 0))], marks := [] }) (fun i => i ≤ 3) (fun i => 3 - i) 0 mo (by kernel_rfl) ?_ (Nat.zero_le _) ?_
  · refine ent_weaken [] (by rw [show genM (spLo c l) l.length 0 0 = fun _ => 0 from genM_zero (fun _ => rfl) l.length, show genM (spHi c l) l.length 0 0 = fun _ => 0 from genM_zero (fun _ => rfl) l.length]; rfl) rfl (Nat.zero_le _) (by simp [AB.low, rg3_low, csC, C.lowL, C.low]) rfl ?_
    simp (maxSteps := 2000000) only [go_sem, reduceIte, Nat.reduceEqDiff, Nat.reduceAdd, Nat.reduceLT, lk59, lk57, ints, csC]
    all_goals first | exact .refl _ | exact ⟨.refl _, .refl _⟩ | exact ⟨.refl _, .refl _, .refl _⟩ | exact ⟨.refl _, _, rfl⟩ | exact ⟨_, rfl⟩ | exact ⟨.refl _, [], by simp⟩ | exact ⟨[], by simp⟩
  rintro i hi
  simp (maxSteps := 2000000) only [go_sem, reduceIte, Nat.reduceEqDiff, Nat.reduceAdd, lk59, lk57, csC]
  by_cases hlt : i < 3
  · have hlt' : (i : Int) < 3 := by omega
    have m1 : 3 - (i + 1) < 3 - i := by omega
    have w3 : wr .i64 ((i : Int) + 1) = ((i + 1 : Nat) : Int) := by rw [wr_i64] <;> omega
    simp (maxSteps := 2000000) only [go_sem, reduceIte, Nat.reduceEqDiff, Nat.reduceAdd, lk59, lk57, hlt']
    refine goE_loop (bad := []) (kp := kp59) (fun b : Nat => { slots := [(1, ints l), (2, .c (.ptr 0 0)), (5, .c (.ms 1 0 3 3)), (6, I i), (7, I b)], heap := [.cells (csC c), .cells (rg3C (genM (spLo c l) l.length i b) (genM (spHi c l) l.length i b))], marks := [] }) (fun b => b ≤ l.length) (fun b => l.length - b) 0 mo (by kernel_rfl) ?_ (Nat.zero_le _) ?_
    · refine ent_weaken [] (by simp only [List.append_nil, csC]) rfl (Nat.zero_le _) (by simp [AB.low, rg3_low, csC, C.lowL, C.low]) rfl ?_
      simp (maxSteps := 2000000) only [go_sem, reduceIte, Nat.reduceEqDiff, Nat.reduceAdd, Nat.reduceLT, lk59, lk57, ints, csC]
      all_goals first | exact .refl _ | exact ⟨.refl _, .refl _⟩ | exact ⟨.refl _, .refl _, .refl _⟩ | exact ⟨.refl _, _, rfl⟩ | exact ⟨_, rfl⟩ | exact ⟨.refl _, [], by simp⟩ | exact ⟨[], by simp⟩
    rintro b hb
    simp (maxSteps := 2000000) only [go_sem, reduceIte, Nat.reduceEqDiff, Nat.reduceAdd, lk59, lk57, csC, ints]
    by_cases hlb : b < l.length
    · have hlb' : (b : Int) < l.length := by omega
      have m2 : l.length - (b + 1) < l.length - b := by omega
      obtain ⟨row, hr, hrl⟩ := hc.row hlt
      have g1 := Cs.e_at hr (b := b) (by omega)
      have g2 := Cs.l_lt (c := c) (b := b) (by omega)
      have g3 := gI_lt hlb
      have g4 := rg3_lo (genM (spLo c l) l.length i b) (genM (spHi c l) l.length i b) hlt
      have g5 := rg3_hi (genM (spLo c l) l.length i (b + 1)) (genM (spHi c l) l.length i b) hlt
      rw [genM_at] at g4 g5
      have k1 : (i : Int) < c.eye.length := by omega
      have k2 : (b : Int) < row.length := by omega
      have k3 : (b : Int) < c.lamp.length := by omega
      have r1 : decide ((i : Int) < ((3 : Nat) : Int)) = true := by simp; omega
      have r2 : decide (i * 2 ≤ 5) = true := by simp; omega
      have r3 : decide (i * 2 ≤ 4) = true := by simp; omega
      have p1 := hc.okL l.length i b hlt hlb
      have p2 := hc.okH l.length i b hlt hlb
      have b1 := spLo_bound hc hl hlt hb
      have b2 := spHi_bound hc hl hlt hb
      have b3 := mul_bound (hl.g hlb) p1
      have b4 := mul_bound (hl.g hlb) p2
      rw [Int.mul_comm] at b3 b4
      have w0 : wr .i64 ((c.e i b).lo * (c.l b).lo) = pL c i b := wr_in (by unfold pL at p1; omega)
      have w1 : wr .i64 ((c.e i b).hi * (c.l b).hi) = pH c i b := wr_in (by unfold pH at p2; omega)
      have w2 : wr .i64 (pL c i b * gI l b) = pL c i b * gI l b := wr_in (by omega)
      have w4 : wr .i64 (pH c i b * gI l b) = pH c i b * gI l b := wr_in (by omega)
      have w5 : wr .i64 (spLo c l i b + min (pL c i b * gI l b) (pH c i b * gI l b)) = spLo c l i (b + 1) := wr_in (by omega)
      have w6 : wr .i64 (spHi c l i b + max (pL c i b * gI l b) (pH c i b * gI l b)) = spHi c l i (b + 1) := wr_in (by omega)
      have w7 : wr .i64 ((b : Int) + 1) = ((b + 1 : Nat) : Int) := wr_succ hlb (by omega)
      clear b1 b2 b3 b4
      simp (maxSteps := 2000000) only [go_sem, reduceIte, Nat.reduceEqDiff, Nat.reduceAdd, Nat.reduceLeDiff, Nat.reduceBEq, lk59, lk57, hlb', hr, rowR, rgD, iD, g1, g2, g3, g4, k1, k2, k3, r1, r2, r3, nn, w0, w1, w2, w4, w5, w7, rg3_len, Nat.mul_one, Nat.zero_add, minL2, maxL2, rg3_slo, genM_upd, g5, w6, rg3_shi]
      refine ⟨b + 1, hlb, m2, ?_⟩
      refine ent_weaken [] ?_ rfl (Nat.zero_le _) (by simp [AB.low, rg3_low, csC, C.lowL, C.low]) rfl ?_
      · have q1 : upd (genM (spLo c l) l.length i b) i (spLo c l i (b + 1)) = genM (spLo c l) l.length i (b + 1) := genM_upd rfl
        have q2 : upd (genM (spHi c l) l.length i b) i (spHi c l i (b + 1)) = genM (spHi c l) l.length i (b + 1) := genM_upd rfl
        simp only [q1, q2, List.append_nil, csC]
      simp (maxSteps := 2000000) only [go_sem, reduceIte, Nat.reduceEqDiff, Nat.reduceAdd, Nat.reduceLT, lk59, lk57, ints, csC]
      all_goals first | exact .refl _ | exact ⟨.refl _, .refl _⟩ | exact ⟨.refl _, .refl _, .refl _⟩ | exact ⟨.refl _, _, rfl⟩ | exact ⟨_, rfl⟩ | exact ⟨.refl _, [], by simp⟩ | exact ⟨[], by simp⟩
    · have hlb' : ¬ (b : Int) < l.length := by omega
      have e : b = l.length := by omega
      subst e
      simp (maxSteps := 2000000) only [go_sem, reduceIte, Nat.reduceEqDiff, Nat.reduceAdd, lk59, lk57, hlb', w3]
      refine ⟨i + 1, hlt, m1, ?_⟩
      refine ent_weaken [] (by rw [show genM (spLo c l) l.length (i + 1) 0 = _ from (genM_next (S := spLo c l) (fun _ => rfl) _ _).symm, show genM (spHi c l) l.length (i + 1) 0 = _ from (genM_next (S := spHi c l) (fun _ => rfl) _ _).symm]; simp only [List.append_nil, csC]) rfl (Nat.zero_le _) (by simp [AB.low, rg3_low, csC, C.lowL, C.low]) rfl ?_
      simp (maxSteps := 2000000) only [go_sem, reduceIte, Nat.reduceEqDiff, Nat.reduceAdd, Nat.reduceLT, lk59, lk57, ints, csC]
      all_goals first | exact .refl _ | exact ⟨.refl _, .refl _⟩ | exact ⟨.refl _, .refl _, .refl _⟩ | exact ⟨.refl _, _, rfl⟩ | exact ⟨_, rfl⟩ | exact ⟨.refl _, [], by simp⟩ | exact ⟨[], by simp⟩
  · have hlt' : ¬ (i : Int) < 3 := by omega
    have e : i = 3 := by omega
    subst e
    simp (maxSteps := 2000000) only [go_sem, reduceIte, Nat.reduceEqDiff, Nat.reduceAdd, Nat.reduceSub, lk59, lk57, hlt']
    refine ⟨1, rg3C (genM (spLo c l) l.length 3 0) (genM (spHi c l) l.length 3 0), numsD 6 (zip2 (genM (spLo c l) l.length 3 0) (genM (spHi c l) l.length 3 0)), _, rfl, toDs_d _, .v (.c (.ms 0 2 3 3 (by rw [numsD_len]; omega) (Nat.le_refl _) (by unfold lim; omega))), ?_⟩
    rw [List.drop_zero, rg3_gen]
    exact .refl _

/-- What is above 0, and what is below. -/
def upL (l : List Int) : List Int := (List.range l.length).map (fun k => max (gI l k) 0)
def dnL (l : List Int) : List Int := (List.range l.length).map (fun k => min (gI l k) 0)
def cutM (f : Nat → Int) (b : Nat) : Nat → Int := fun k => if k < b then f k else 0
theorem cutM_zero (f : Nat → Int) : cutM f 0 = fun _ => 0 := by funext k; simp [cutM]
theorem cutM_upd {f : Nat → Int} {i : Nat} {v : Int} (h : v = f i) : upd (cutM f i) i v = cutM f (i + 1) := by
  funext k
  by_cases e : k = i
  · subst e; rw [upd_same, h]; simp [cutM]
  · rw [upd_ne _ _ e]
    simp only [cutM]
    have : k < i + 1 ↔ k < i := by omega
    simp only [this]
theorem cutM_all (f : Nat → Int) (n : Nat) : (List.range n).map (fun k => iD (cutM f n k)) = ((List.range n).map f).map iD := by
  rw [List.map_map]
  refine List.map_congr_left fun k hk => ?_
  simp at hk
  simp [cutM, hk]
theorem upL_len (l : List Int) : (upL l).length = l.length := by simp [upL]
theorem dnL_len (l : List Int) : (dnL l).length = l.length := by simp [dnL]
theorem gI_up {l : List Int} {k : Nat} (h : k < l.length) : gI (upL l) k = max (gI l k) 0 := gI_get (by simp [upL, h])
theorem gI_dn {l : List Int} {k : Nat} (h : k < l.length) : gI (dnL l) k = min (gI l k) 0 := gI_get (by simp [dnL, h])
theorem Spec.up {l : List Int} (h : Spec l) : Spec (upL l) := ⟨by rw [upL_len]; exact h.n8, fun x hx => by
  simp only [upL, List.mem_map, List.mem_range] at hx
  obtain ⟨k, hk, rfl⟩ := hx
  have := h.g hk; omega⟩
theorem Spec.dn {l : List Int} (h : Spec l) : Spec (dnL l) := ⟨by rw [dnL_len]; exact h.n8, fun x hx => by
  simp only [dnL, List.mem_map, List.mem_range] at hx
  obtain ⟨k, hk, rfl⟩ := hx
  have := h.g hk; omega⟩
theorem mul_updn {p q x : Int} (h0 : 0 ≤ p) (h : p ≤ q) : max x 0 * p + min x 0 * q = min (p * x) (q * x) ∧ max x 0 * q + min x 0 * p = max (p * x) (q * x) := by
  by_cases hx : 0 ≤ x
  · have h1 : max x 0 = x := by omega
    have h2 : min x 0 = 0 := by omega
    have h3 : p * x ≤ q * x := Int.mul_le_mul_of_nonneg_right h hx
    rw [h1, h2, Int.mul_comm x p, Int.mul_comm x q, Int.zero_mul, Int.zero_mul]; omega
  · have h1 : max x 0 = 0 := by omega
    have h2 : min x 0 = x := by omega
    have h3 : q * x ≤ p * x := Int.mul_le_mul_of_nonpos_right h (by omega)
    rw [h1, h2, Int.mul_comm x p, Int.mul_comm x q, Int.zero_mul, Int.zero_mul]; omega
theorem sp_lo {c : Cs} (hc : OkC c) (l : List Int) (k : Nat) : seeF (pL c) (upL l) k + seeF (pH c) (dnL l) k = spLo c l k l.length := by
  unfold seeF seeS spLo
  rw [upL_len, dnL_len, sumF_add]
  refine sumF_congr fun b hb => ?_
  rw [gI_up hb, gI_dn hb]
  exact (mul_updn (by have := hc.okL 9 0 0 (by omega) (by omega); have := hc.be k b; have := hc.bl b; exact Int.mul_nonneg (by omega) (by omega)) (hc.okLH k b)).1
theorem sp_hi {c : Cs} (hc : OkC c) (l : List Int) (k : Nat) : seeF (pH c) (upL l) k + seeF (pL c) (dnL l) k = spHi c l k l.length := by
  unfold seeF seeS spHi
  rw [upL_len, dnL_len, sumF_add]
  refine sumF_congr fun b hb => ?_
  rw [gI_up hb, gI_dn hb]
  exact (mul_updn (by have := hc.be k b; have := hc.bl b; exact Int.mul_nonneg (by omega) (by omega)) (hc.okLH k b)).2

theorem freeL_d (n : Nat) (l : List D) : C.freeL n (l.map .d) = true := by induction l with | nil => rfl | cons a l ih => simp [C.freeL, C.free, ih]
theorem numsC_free (m n : Nat) (f : Nat → Int) : C.freeL m (numsC n f) = true := freeL_d _ _
theorem fz_nums (id n : Nat) (f : Nat → Int) (h : n ≤ lim) : FzV id (numsD n (cutM f n)) (.c (.ms id 0 n n)) (ints ((List.range n).map f)) := by
  have e : (V.c (.d (.sl (chunk 1 n ((numsD n (cutM f n)).drop 0))))) = ints ((List.range n).map f) := by rw [List.drop_zero, chunk_nums, cutM_all]; rfl
  rw [← e]
  exact .c (.ms 0 1 n n (by rw [numsD_len]; omega) (Nat.le_refl _) h)
theorem le8 {n : Nat} (h : n ≤ 8) : n = 0 ∨ n = 1 ∨ n = 2 ∨ n = 3 ∨ n = 4 ∨ n = 5 ∨ n = 6 ∨ n = 7 ∨ n = 8 := by omega
set_option maxHeartbeats 8000000 in
theorem spans57 (c : Cs) (l : List Int) (hc : OkC c) (hl : Spec l) (hn : l.length = c.lamp.length) : Pure Try.prog 57 [csV c, ints l] (rgs (spansL c l)) := by
  refine pure_fzE (bad := [1, 7, 8, 10003]) (kp := kp57) (X := tx) (nt := 85) (rs := [.tmp 4]) Try.func57 rfl rfl rfl rfl mo (by kernel_rfl) rfl rfl (fun hf => ?_)
  have hn8 := hl.n8
  have he3 := hc.e3
  have hu : ∀ g P, (∀ i b : Nat, i < 3 → b < c.lamp.length → Pure Try.prog g [csV c, I i, I b] (I (P i b))) → (∀ n, PrOk n P) → Pure Try.prog 53 [csV c, ints (upL l), .c (.ma (.func g) (csC c))] (th (seeF P (upL l))) := fun g P h1 h2 =>
    see53 c (upL l) g P hl.up (h2 _) (fun i b hi hb => h1 i b hi (by rw [upL_len] at hb; omega))
  have hd : ∀ g P, (∀ i b : Nat, i < 3 → b < c.lamp.length → Pure Try.prog g [csV c, I i, I b] (I (P i b))) → (∀ n, PrOk n P) → Pure Try.prog 53 [csV c, ints (dnL l), .c (.ma (.func g) (csC c))] (th (seeF P (dnL l))) := fun g P h1 h2 =>
    see53 c (dnL l) g P hl.dn (h2 _) (fun i b hi hb => h1 i b hi (by rw [dnL_len] at hb; omega))
  have uL := hu 80 (pL c) (fun i b hi hb => low80 c hc i b hi hb) hc.okL
  have uH := hu 81 (pH c) (fun i b hi hb => high81 c hc i b hi hb) hc.okH
  have dL := hd 80 (pL c) (fun i b hi hb => low80 c hc i b hi hb) hc.okL
  have dH := hd 81 (pH c) (fun i b hi hb => high81 c hc i b hi hb) hc.okH
  have d1 : ((8 : Nat) : Int) * l.length ≤ 140737488355328 := by show (8 : Int) * _ ≤ _; omega
  have d2 : (l.length : Int) ≤ ((140737488355328 : Nat) : Int) := by show (_ : Int) ≤ 140737488355328; omega
  simp (maxSteps := 2000000) only [go_sem, reduceIte, Nat.reduceEqDiff, Nat.reduceAdd, Nat.reduceLT, Nat.reduceLeDiff, Nat.reduceBEq, lk59, lk57, csV, csC, ints, rep_nums, nn, Int.toNat_natCast, d1, d2, Int.le_refl, decide_true, Bool.true_and]
  refine ⟨by rw [numsC_free, numsC_low]; rfl, by rw [numsC_free, numsC_low]; rfl, ?_, ?_⟩
  · rcases le8 hn8 with h | h | h | h | h | h | h | h | h <;> rw [h] <;> exact pairsOk_ord (by kernel_rfl)
  refine goE_loop (bad := [1, 7, 8, 10003]) (kp := kp57) (fun i : Nat => { slots := [(2, .c (.ptr 0 0)), (5, .c (.ms 1 0 l.length l.length)), (6, .c (.ms 2 0 l.length l.length)), (21, ints l), (22, I l.length), (23, I i)], heap := [.cells (csC c), .cells (numsC l.length (cutM (fun k => max (gI l k) 0) i)), .cells (numsC l.length (cutM (fun k => min (gI l k) 0) i))], marks := [] }) (fun i => i ≤ l.length) (fun i => l.length - i) 0 mo (by kernel_rfl) ?_ (Nat.zero_le _) ?_
  · refine ent_weaken [] (by simp only [cutM_zero, List.append_nil, csC]) rfl (Nat.zero_le _) (by simp [AB.low, numsC_low, csC, C.lowL, C.low]) rfl ?_
    simp (maxSteps := 2000000) only [go_sem, reduceIte, Nat.reduceEqDiff, Nat.reduceAdd, Nat.reduceLT, lk59, lk57, ints, csC]
    all_goals first | exact .refl _ | exact ⟨.refl _, .refl _⟩ | exact ⟨.refl _, .refl _, .refl _⟩ | exact ⟨.refl _, _, rfl⟩ | exact ⟨_, rfl⟩ | exact ⟨.refl _, [], by simp⟩ | exact ⟨[], by simp⟩
  rintro b hb
  simp (maxSteps := 2000000) only [go_sem, reduceIte, Nat.reduceEqDiff, Nat.reduceAdd, Nat.reduceBEq, lk59, lk57, csC, ints]
  by_cases hlt : b < l.length
  · have hlt' : (b : Int) < l.length := by omega
    refine stop_mk _ Ent.refl ?_
    have g0 := gI_lt hlt
    have m1 : l.length - (b + 1) < l.length - b := by omega
    have w3 : wr .i64 ((b : Int) + 1) = ((b + 1 : Nat) : Int) := wr_succ hlt (by omega)
    have r3 : decide (b + 1 ≤ l.length) = true := by simp; omega
    simp (maxSteps := 2000000) only [go_sem, reduceIte, Nat.reduceEqDiff, Nat.reduceAdd, Nat.reduceBEq, lk59, lk57, hlt', g0, nn, iD, r3, w3, numsC_len, Nat.mul_one, Nat.zero_add, minL2, maxL2, numsC_set]
    refine ⟨b + 1, hlt, m1, ?_⟩
    refine ent_weaken [] ?_ rfl (Nat.zero_le _) (by simp [AB.low, numsC_low, csC, C.lowL, C.low]) rfl ?_
    · have q1 : upd (cutM (fun k => max (gI l k) 0) b) b (max (gI l b) 0) = cutM (fun k => max (gI l k) 0) (b + 1) := cutM_upd rfl
      have q2 : upd (cutM (fun k => min (gI l k) 0) b) b (min (gI l b) 0) = cutM (fun k => min (gI l k) 0) (b + 1) := cutM_upd rfl
      simp only [q1, q2, List.append_nil, csC]
    simp (maxSteps := 2000000) only [go_sem, reduceIte, Nat.reduceEqDiff, Nat.reduceAdd, Nat.reduceLT, lk59, lk57, ints, csC]
    all_goals first | exact .refl _ | exact ⟨.refl _, .refl _⟩ | exact ⟨.refl _, .refl _, .refl _⟩ | exact ⟨.refl _, _, rfl⟩ | exact ⟨_, rfl⟩ | exact ⟨.refl _, [], by simp⟩ | exact ⟨[], by simp⟩
  have hlt' : ¬ (b : Int) < l.length := by omega
  have e : b = l.length := by omega
  subst e
  simp only [hlt', decide_false]
  refine stop_mk { slots := [(2, .c (.ptr 0 0)), (5, ints (upL l)), (6, ints (dnL l)), (24, B false)], heap := [.cells (csC c), .gone, .gone], marks := [] } ?_ ?_
  · refine Ent.trans (ent_freeze 1 (s' := { slots := [(2, .c (.ptr 0 0)), (5, ints (upL l)), (6, .c (.ms 2 0 l.length l.length)), (24, B false)], heap := [.cells (csC c), .gone, .cells (numsC l.length (cutM (fun k => min (gI l k) 0) l.length))], marks := [] }) (cs := numsC l.length (cutM (fun k => max (gI l k) 0) l.length)) rfl (toDs_d _) rfl rfl ⟨.same _, fz_nums _ _ _ (by unfold lim; omega), .same _, .same _, trivial⟩) ?_
    exact ent_freeze 2 (cs := numsC l.length (cutM (fun k => min (gI l k) 0) l.length)) rfl (toDs_d _) rfl rfl ⟨.same _, .same _, fz_nums _ _ _ (by unfold lim; omega), .same _, trivial⟩
  simp (maxSteps := 2000000) only [go_sem, reduceIte, Nat.reduceEqDiff, Nat.reduceAdd, Nat.reduceLeDiff, Nat.reduceBEq, Int.reduceLE, Int.reduceToNat, lk59, lk57, csC, List.isEmpty_cons]
  refine de_pure (uL) rfl rfl (by first | exact wk_refls _ | (repeat constructor)) ?_
  simp (maxSteps := 2000000) only [go_sem, reduceIte, Nat.reduceEqDiff, Nat.reduceAdd, lk59, lk57, csC, List.isEmpty_cons, th, numsC3]
  refine de_pure (uH) rfl rfl (by first | exact wk_refls _ | (repeat constructor)) ?_
  simp (maxSteps := 2000000) only [go_sem, reduceIte, Nat.reduceEqDiff, Nat.reduceAdd, Nat.reduceLeDiff, lk59, lk57, csC, List.isEmpty_cons, th, numsC3]
  refine ⟨pairsOk_ord (by kernel_rfl), ?_⟩
  refine de_pure (dH) rfl rfl (by first | exact wk_refls _ | (repeat constructor)) ?_
  simp (maxSteps := 2000000) only [go_sem, reduceIte, Nat.reduceEqDiff, Nat.reduceAdd, lk59, lk57, csC, List.isEmpty_cons, th, numsC3]
  refine de_pure (dL) rfl rfl (by first | exact wk_refls _ | (repeat constructor)) ?_
  simp (maxSteps := 2000000) only [go_sem, reduceIte, Nat.reduceEqDiff, Nat.reduceAdd, Nat.reduceLeDiff, lk59, lk57, csC, List.isEmpty_cons, th, numsC3]
  refine ⟨pairsOk_ord (by kernel_rfl), by decide, ?_⟩
  refine goE_loop (bad := [1, 7, 8, 10003]) (kp := kp57) (fun i : Nat => { slots := [(9, .c (.ptr 3 0)), (10, .c (.ptr 4 0)), (11, .c (.ptr 5 0)), (12, .c (.ptr 6 0)), (13, .c (.ms 7 0 3 3)), (61, I 3), (62, I i)], heap := [.cells (csC c), .gone, .gone, .cells (numsC 3 (seeF (pL c) (upL l))), .cells (numsC 3 (seeF (pH c) (upL l))), .cells (numsC 3 (seeF (pH c) (dnL l))), .cells (numsC 3 (seeF (pL c) (dnL l))), .cells (rg3C (cutM (fun k => spLo c l k l.length) i) (cutM (fun k => spHi c l k l.length) i))], marks := [] }) (fun i => i ≤ 3) (fun i => 3 - i) 0 mo (by kernel_rfl) ?_ (Nat.zero_le _) ?_
  · refine ent_weaken [] (by rw [cutM_zero, cutM_zero]; rfl) rfl (Nat.zero_le _) (by simp [AB.low, numsC_low, rg3_low, csC, C.lowL, C.low]) rfl ?_
    simp (maxSteps := 2000000) only [go_sem, reduceIte, Nat.reduceEqDiff, Nat.reduceAdd, Nat.reduceLT, lk59, lk57, csC]
    all_goals first | exact .refl _ | exact ⟨.refl _, .refl _⟩ | exact ⟨.refl _, .refl _, .refl _⟩ | exact ⟨.refl _, _, rfl⟩ | exact ⟨_, rfl⟩ | exact ⟨.refl _, [], by simp⟩ | exact ⟨[], by simp⟩
  rintro i hi
  simp (maxSteps := 2000000) only [go_sem, reduceIte, Nat.reduceEqDiff, Nat.reduceAdd, Nat.reduceBEq, lk59, lk57, csC]
  by_cases hlt : i < 3
  · have hlt2 : (i : Int) < 3 := by omega
    have m1 : 3 - (i + 1) < 3 - i := by omega
    have g1 := numsC_get (seeF (pL c) (upL l)) hlt
    have g2 := numsC_get (seeF (pH c) (upL l)) hlt
    have g3 := numsC_get (seeF (pH c) (dnL l)) hlt
    have g4 := numsC_get (seeF (pL c) (dnL l)) hlt
    have b1 := spLo_bound hc hl hlt (Nat.le_refl l.length)
    have b2 := spHi_bound hc hl hlt (Nat.le_refl l.length)
    have r1 : decide ((i : Int) < ((3 : Nat) : Int)) = true := by simp; omega
    have r2 : decide (i ≤ 2) = true := by simp; omega
    have r3 : decide (i + 1 ≤ 3) = true := by simp; omega
    have r4 : decide (i * 2 + 2 ≤ 6) = true := by simp; omega
    have r5 : decide (i * 2 ≤ 4) = true := by simp; omega
    have w3 : wr .i64 ((i : Int) + 1) = ((i + 1 : Nat) : Int) := by rw [wr_i64] <;> omega
    have w1 : wr .i64 (seeF (pL c) (upL l) i + seeF (pH c) (dnL l) i) = spLo c l i l.length := by rw [sp_lo hc]; exact wr_in (by omega)
    have w2 : wr .i64 (seeF (pH c) (upL l) i + seeF (pL c) (dnL l) i) = spHi c l i l.length := by rw [sp_hi hc]; exact wr_in (by omega)
    clear b1 b2
    simp (maxSteps := 2000000) only [go_sem, reduceIte, Nat.reduceEqDiff, Nat.reduceAdd, Nat.reduceLeDiff, Nat.reduceBEq, lk59, lk57, hlt2, g1, g2, g3, g4, nn, r1, r2, r3, r4, r5, w1, w2, w3, numsC_len, rg3_len, Nat.mul_one, Nat.zero_add, rg3_slo, rg3_shi]
    refine ⟨i + 1, hlt, m1, ?_⟩
    refine ent_weaken [] ?_ rfl (Nat.zero_le _) (by simp [AB.low, numsC_low, rg3_low, csC, C.lowL, C.low]) rfl ?_
    · have q1 : upd (cutM (fun k => spLo c l k l.length) i) i (spLo c l i l.length) = cutM (fun k => spLo c l k l.length) (i + 1) := cutM_upd rfl
      have q2 : upd (cutM (fun k => spHi c l k l.length) i) i (spHi c l i l.length) = cutM (fun k => spHi c l k l.length) (i + 1) := cutM_upd rfl
      simp only [q1, q2, List.append_nil, csC]
    simp (maxSteps := 2000000) only [go_sem, reduceIte, Nat.reduceEqDiff, Nat.reduceAdd, Nat.reduceLT, lk59, lk57, csC]
    all_goals first | exact .refl _ | exact ⟨.refl _, .refl _⟩ | exact ⟨.refl _, .refl _, .refl _⟩ | exact ⟨.refl _, _, rfl⟩ | exact ⟨_, rfl⟩ | exact ⟨.refl _, [], by simp⟩ | exact ⟨[], by simp⟩
  · have hlt2 : ¬ (i : Int) < 3 := by omega
    have e : i = 3 := by omega
    subst e
    simp (maxSteps := 2000000) only [go_sem, reduceIte, Nat.reduceEqDiff, Nat.reduceAdd, Nat.reduceBEq, Nat.reduceSub, lk59, lk57, hlt2]
    refine ⟨7, rg3C (cutM (fun k => spLo c l k l.length) 3) (cutM (fun k => spHi c l k l.length) 3), numsD 6 (zip2 (cutM (fun k => spLo c l k l.length) 3) (cutM (fun k => spHi c l k l.length) 3)), _, rfl, toDs_d _, .v (.c (.ms 0 2 3 3 (by rw [numsD_len]; omega) (Nat.le_refl _) (by unfold lim; omega))), ?_⟩
    rw [List.drop_zero, rg3_chunk]
    exact .refl _
end Go.Proofs.Ytjkpfojkkfopmaa
