/- Zones: CheckTrue and Flux, of the program. -/
import Derived.Test.YtliamojogmlgjaaZ8
set_option linter.unusedSimpArgs false
set_option linter.unusedVariables false
set_option maxRecDepth 100000
namespace Go.Proofs.Ytliamojogmlgjaa
open Go Go.Abs Go.Proofs
def kp21 : List (Nat × List Nat) := [(0, [1, 2]), (1, [1, 2, 5]), (2, [1, 2, 5, 17]), (3, [4]), (4, [1, 2, 24]), (5, [4]), (6, [1, 2, 6]), (7, [1, 2, 6, 27, 28, 29]), (8, [1, 2, 6, 27, 28, 29, 30]), (9, [1, 2, 6, 7, 8, 27, 28, 29]), (10, [1, 2, 6, 8, 9, 27, 28, 29]), (11, [1, 2, 6, 27, 28, 29, 49]), (12, [4]), (13, [1, 2, 6, 27, 28, 29]), (14, [1, 6, 52, 53, 54]), (15, [1, 6, 52, 53, 54, 55]), (16, [1, 6, 10, 11, 52, 53, 54]), (17, [1, 6, 11, 12, 52, 53, 54]), (18, [1, 6, 11, 12, 13, 52, 53, 54]), (19, [1, 6, 11, 12, 13, 52, 53, 54, 77]), (20, [1, 6, 11, 12, 13, 52, 53, 54]), (21, [1, 6, 11, 12, 13, 52, 53, 54, 108]), (22, [4]), (23, [1, 6, 52, 53, 54]), (24, [4])]
theorem lk21 : lookK kp21 0 = some [1, 2] ∧ lookK kp21 1 = some [1, 2, 5] ∧ lookK kp21 2 = some [1, 2, 5, 17] ∧ lookK kp21 3 = some [4] ∧ lookK kp21 4 = some [1, 2, 24] ∧ lookK kp21 5 = some [4] ∧ lookK kp21 6 = some [1, 2, 6] ∧ lookK kp21 7 = some [1, 2, 6, 27, 28, 29] ∧ lookK kp21 8 = some [1, 2, 6, 27, 28, 29, 30] ∧ lookK kp21 9 = some [1, 2, 6, 7, 8, 27, 28, 29] ∧ lookK kp21 10 = some [1, 2, 6, 8, 9, 27, 28, 29] ∧ lookK kp21 11 = some [1, 2, 6, 27, 28, 29, 49] ∧ lookK kp21 12 = some [4] ∧ lookK kp21 13 = some [1, 2, 6, 27, 28, 29] ∧ lookK kp21 14 = some [1, 6, 52, 53, 54] ∧ lookK kp21 15 = some [1, 6, 52, 53, 54, 55] ∧ lookK kp21 16 = some [1, 6, 10, 11, 52, 53, 54] ∧ lookK kp21 17 = some [1, 6, 11, 12, 52, 53, 54] ∧ lookK kp21 18 = some [1, 6, 11, 12, 13, 52, 53, 54] ∧ lookK kp21 19 = some [1, 6, 11, 12, 13, 52, 53, 54, 77] ∧ lookK kp21 20 = some [1, 6, 11, 12, 13, 52, 53, 54] ∧ lookK kp21 21 = some [1, 6, 11, 12, 13, 52, 53, 54, 108] ∧ lookK kp21 22 = some [4] ∧ lookK kp21 23 = some [1, 6, 52, 53, 54] ∧ lookK kp21 24 = some [4] := ⟨rfl, rfl, rfl, rfl, rfl, rfl, rfl, rfl, rfl, rfl, rfl, rfl, rfl, rfl, rfl, rfl, rfl, rfl, rfl, rfl, rfl, rfl, rfl, rfl, rfl⟩

set_option maxHeartbeats 1000000 in
theorem at52 (l : La) (ok : OkLa l) (i : Nat) (hi : i < l.an.length) (H : List AB) (b : Nat) (hb : H[b]? = some (.cells (laC l))) : ACall Try.prog 52 [I i, .c (.ptr b 0)] H (one (I (P l i)) H) := by
  have lb := (List.getElem?_eq_some_iff.1 hb).1
  refine ACall.low_of Try.func52 rfl rfl (fun hH => ?_)
  refine acall_atE (bad := []) (kp := kp52) (X := tx) (nt := 14) (rs := [.tmp 3]) Try.func52 rfl rfl rfl rfl mo (by kernel_rfl) (by simp [V.low, C.low, lb]) hH (fun hf => ?_)
  have hi' : (i : Int) < l.an.length := by omega
  have p0 : (0 : Int) < l.an.length := by omega
  have g0 := gI_lt (l := l.an) (i := 0) (by omega)
  have g1 := gI_lt hi
  have hr := ok.a0 i hi
  have hr0 := ok.a0 0 (by omega)
  have hda := at_deg ok hi
  unfold laC at hb
  have w1 : wr .i64 (gI l.an i - gI l.an 0) = (P l i : Int) := by rw [wr_in (by omega), hda]
  simp (maxSteps := 2000000) only [go_sem, reduceIte, Nat.reduceEqDiff, Nat.reduceAdd, Nat.reduceLeDiff, Nat.reduceBEq, Int.reduceLE, Int.reduceToNat, List.replicate_succ, lk21, lk52, hb, hi', nn, p0, g0, g1, iD, w1]
  all_goals first | exact .refl _ | exact ⟨.refl _, .refl _⟩ | exact ⟨.refl _, .refl _, .refl _⟩ | exact ⟨.refl _, _, rfl⟩ | exact ⟨_, rfl⟩ | exact ⟨.refl _, [], by simp⟩ | exact ⟨[], by simp⟩
set_option maxHeartbeats 8000000 in
theorem true21 (l : La) (x : List Int) : Pure Try.prog 21 [laV l, ints x] (I (ctE l x)) := by
  refine pure_wkE (bad := []) (kp := kp21) (X := tx) (nt := 110) (rs := [.tmp 4]) Try.func21 rfl rfl rfl rfl mo (by kernel_rfl) rfl rfl (fun hf => ?_)
  have hl := lamp19 l
  unfold laV laC at hl
  simp (maxSteps := 2000000) only [go_sem, reduceIte, Nat.reduceEqDiff, Nat.reduceAdd, List.replicate_succ, lk21, laV, laC, ints]
  refine aops_pure' (hl) rfl rfl (by first | exact wk_refls _ | (repeat constructor)) ?_
  by_cases h0 : okLa l = 0
  case neg =>
    have e := ctE_bad h0 x
    simp (maxSteps := 2000000) only [go_sem, reduceIte, Nat.reduceEqDiff, Nat.reduceAdd, List.replicate_succ, lk21, h0, e]
  by_cases h1 : x.length = l.we.length
  case neg =>
    have h1' : ¬ (x.length : Int) = l.we.length := by omega
    have e := ctE_len h0 h1
    simp (maxSteps := 2000000) only [go_sem, reduceIte, Nat.reduceEqDiff, Nat.reduceAdd, Nat.reduceBEq, List.replicate_succ, lk21, h0, h1', e]
  have h1' : (x.length : Int) = l.we.length := by omega
  have ok := okLa_n h0
  obtain ⟨n2, n91⟩ := ok.n91
  have m2 := ok.m2
  have m11 := ok.m11
  have hli := ok.li
  have hfa := ok.fa
  have hwe := ok.we
  simp (maxSteps := 2000000) only [go_sem, reduceIte, Nat.reduceEqDiff, Nat.reduceAdd, Nat.reduceLeDiff, Nat.reduceBEq, List.replicate_succ, lk21, h0, h1']
  refine goE_loop (bad := []) (kp := kp21) (fun i : Nat => { slots := [(1, ints x), (2, .c (.ptr 0 0)), (6, .c (.fn (.func 52) [.ptr 0 0])), (27, rgs l.li), (28, I l.li.length), (29, I i)], heap := [.cells (laC l)], marks := [] }) (fun i => i ≤ l.an.length ∧ ∀ j, j < i → badL l x j = false) (fun i => l.an.length - i) 0 mo (by kernel_rfl) ?_ ⟨Nat.zero_le _, by intro j hj; omega⟩ ?_
  · refine ent_weaken [] rfl rfl (Nat.zero_le _) rfl rfl ?_
    simp (maxSteps := 2000000) only [go_sem, reduceIte, Nat.reduceEqDiff, Nat.reduceLT, List.replicate_succ, lk21, laC, ints, rgs]
    all_goals first | exact .refl _ | exact ⟨.refl _, .refl _⟩ | exact ⟨.refl _, .refl _, .refl _⟩ | exact ⟨.refl _, _, rfl⟩ | exact ⟨_, rfl⟩ | exact ⟨.refl _, [], by simp⟩ | exact ⟨[], by simp⟩
  rintro i ⟨hi, hall⟩
  simp (maxSteps := 2000000) only [go_sem, reduceIte, Nat.reduceEqDiff, Nat.reduceAdd, List.replicate_succ, lk21, laC, ints, rgs]
  by_cases hlt : i < l.an.length
  · have hlr : (i : Int) < l.li.length := by omega
    have g2 := gR_lt (l := l.li) (i := i) (by omega)
    have hPn := (lay ok).lt hlt
    have gx := gI_lt (l := x) (i := P l i) (by omega)
    have hPx : (P l i : Int) < x.length := by omega
    have m1 : l.an.length - (i + 1) < l.an.length - i := by omega
    have hbl : badL l x i = (decide (gI x (P l i) < (gR l.li i).lo) || decide ((gR l.li i).hi < gI x (P l i))) := rfl
    have hat := at52 l ok i hlt [.cells (laC l), .cells (rgC (gR l.li i))] 0 rfl
    unfold laC rgC at hat
    by_cases c1 : gI x (P l i) < (gR l.li i).lo
    · have e := ctE_3 h0 h1 hlt (by rw [hbl, decide_eq_true c1]; rfl) hall
      simp (maxSteps := 2000000) only [go_sem, reduceIte, Nat.reduceEqDiff, Nat.reduceAdd, List.replicate_succ, lk21, hlr, nn, g2, rgD]
      refine aops_at (hat) rfl rfl (by first | exact wk_refls _ | (repeat constructor)) ?_
      simp (maxSteps := 2000000) only [go_sem, reduceIte, Nat.reduceEqDiff, Nat.reduceAdd, Nat.reduceLeDiff, Nat.reduceBEq, List.replicate_succ, lk21, hPx, nn, gx, iD, c1, e]
    by_cases c2 : (gR l.li i).hi < gI x (P l i)
    · have e := ctE_3 h0 h1 hlt (by rw [hbl, decide_eq_true c2, Bool.or_true]) hall
      simp (maxSteps := 2000000) only [go_sem, reduceIte, Nat.reduceEqDiff, Nat.reduceAdd, List.replicate_succ, lk21, hlr, nn, g2, rgD]
      refine aops_at (hat) rfl rfl (by first | exact wk_refls _ | (repeat constructor)) ?_
      simp (maxSteps := 2000000) only [go_sem, reduceIte, Nat.reduceEqDiff, Nat.reduceAdd, Nat.reduceLeDiff, Nat.reduceBEq, List.replicate_succ, lk21, hPx, nn, gx, iD, c1, c2, e]
    have hb : badL l x i = false := by rw [hbl, decide_eq_false c1, decide_eq_false c2]; rfl
    have hall2 : ∀ j, j < i + 1 → badL l x j = false := fun j hj => by
      by_cases e : j = i
      · subst e; exact hb
      · exact hall j (Nat.lt_of_le_of_ne (Nat.le_of_lt_succ hj) e)
    have w7 := wr_succ hlt (Nat.le_trans m11 (by decide))
    simp (maxSteps := 2000000) only [go_sem, reduceIte, Nat.reduceEqDiff, Nat.reduceAdd, List.replicate_succ, lk21, hlr, nn, g2, rgD]
    refine aops_at (hat) rfl rfl (by first | exact wk_refls _ | (repeat constructor)) ?_
    simp (maxSteps := 2000000) only [go_sem, reduceIte, Nat.reduceEqDiff, Nat.reduceAdd, Nat.reduceLeDiff, Nat.reduceBEq, List.replicate_succ, lk21, hPx, nn, gx, iD, c1, c2, w7]
    refine ⟨i + 1, ⟨hlt, hall2⟩, m1, ?_⟩
    refine ent_weaken [.cells (rgC (gR l.li i))] rfl rfl (Nat.zero_le _) rfl rfl ?_
    simp (maxSteps := 2000000) only [go_sem, reduceIte, Nat.reduceEqDiff, Nat.reduceLT, List.replicate_succ, lk21, laC, ints, rgs]
    all_goals first | exact .refl _ | exact ⟨.refl _, .refl _⟩ | exact ⟨.refl _, .refl _, .refl _⟩ | exact ⟨.refl _, _, rfl⟩ | exact ⟨_, rfl⟩ | exact ⟨.refl _, [], by simp⟩ | exact ⟨[], by simp⟩
  have hlr : ¬ (i : Int) < l.li.length := by omega
  have ei : i = l.an.length := by omega
  subst ei
  simp (maxSteps := 2000000) only [go_sem, reduceIte, Nat.reduceEqDiff, Nat.reduceAdd, Nat.reduceLeDiff, Nat.reduceBEq, List.replicate_succ, lk21, hlr]
  clear hlt hlr hi
  refine goE_loop (bad := []) (kp := kp21) (fun i : Nat => { slots := [(1, ints x), (6, .c (.fn (.func 52) [.ptr 0 0])), (52, bools l.fa), (53, I l.fa.length), (54, I i)], heap := [.cells (laC l)], marks := [] }) (fun i => i ≤ l.fa.length ∧ ∀ j, j < P l i → badS l x j = false) (fun i => l.fa.length - i) 0 mo (by kernel_rfl) ?_ ⟨Nat.zero_le _, by intro j hj; rw [(lay ok).p0] at hj; omega⟩ ?_
  · refine ent_weaken [] rfl rfl (Nat.zero_le _) rfl rfl ?_
    simp (maxSteps := 2000000) only [go_sem, reduceIte, Nat.reduceEqDiff, Nat.reduceLT, List.replicate_succ, lk21, laC, ints, bools]
    all_goals first | exact .refl _ | exact ⟨.refl _, .refl _⟩ | exact ⟨.refl _, .refl _, .refl _⟩ | exact ⟨.refl _, _, rfl⟩ | exact ⟨_, rfl⟩ | exact ⟨.refl _, [], by simp⟩ | exact ⟨[], by simp⟩
  rintro i ⟨hi, hal⟩
  simp (maxSteps := 2000000) only [go_sem, reduceIte, Nat.reduceEqDiff, Nat.reduceAdd, List.replicate_succ, lk21, laC, ints, bools]
  by_cases hlt : i < l.fa.length
  case neg =>
    have hlt' : ¬ (i : Int) < l.fa.length := by omega
    have ei : i = l.fa.length := by omega
    have hpn := (lay ok).pn
    have e := ctE_0 h0 h1 hall (fun j hj => hal j (by rw [ei, show l.fa.length = l.an.length - 1 by omega]; omega))
    simp (maxSteps := 2000000) only [go_sem, reduceIte, Nat.reduceEqDiff, Nat.reduceAdd, List.replicate_succ, lk21, hlt', e]
  have hlt' : (i : Int) < l.fa.length := by omega
  have gf := gB_lt hlt
  have hat1 := at52 l ok i (by omega) [.cells (laC l)] 0 rfl
  have hat2 := at52 l ok (i + 1) (by omega) [.cells (laC l)] 0 rfl
  have hPn := (lay ok).lt (i := i + 1) (by omega)
  have hup := (lay ok).up i (by omega)
  have hdir : ∀ k, P l i < k → k ≤ P l (i + 1) → dir l k = gB l.fa i := fun k a b => (lay ok).d i (by omega) k a b
  have mi : l.fa.length - (i + 1) < l.fa.length - i := by omega
  generalize hp1 : P l i = a at *
  generalize hp2 : P l (i + 1) = b at *
  have hb1 : ((b + 1 : Nat) : Int) ≤ x.length := by omega
  have hab : (a : Int) ≤ ((b + 1 : Nat) : Int) := by omega
  have b1000 : b < 1000 := by omega
  have hpart : (List.drop a (List.take (b + 1) x)).length = b + 1 - a := by rw [List.length_drop, List.length_take]; omega
  have hpg : ∀ k, k < b + 1 - a → (List.drop a (List.take (b + 1) x))[k]? = some (gI x (a + k)) := fun k hk => by
    rw [List.getElem?_drop, List.getElem?_take, if_pos (by omega)]; exact gI_lt (by omega)
  have hbig : l.fa.length ≤ 140737488355328 := by omega
  unfold laC at hat1 hat2
  have wb := wr_succ (i := b) (n := 1000) b1000 (by decide)
  have wi := wr_succ hlt hbig
  simp (maxSteps := 2000000) only [go_sem, reduceIte, Nat.reduceEqDiff, Nat.reduceAdd, List.replicate_succ, lk21, hlt', nn, gf, bD]
  refine aops_at (hat1) rfl rfl (by first | exact wk_refls _ | (repeat constructor)) ?_
  simp (maxSteps := 2000000) only [go_sem, reduceIte, Nat.reduceEqDiff, List.replicate_succ, lk21, wi]
  refine aops_at (hat2) rfl rfl (by first | exact wk_refls _ | (repeat constructor)) ?_
  simp (maxSteps := 2000000) only [go_sem, reduceIte, Nat.reduceEqDiff, List.replicate_succ, lk21, wb, wi]
  refine aops_at (hat2) rfl rfl (by first | exact wk_refls _ | (repeat constructor)) ?_
  simp (maxSteps := 2000000) only [go_sem, reduceIte, Nat.reduceEqDiff, List.replicate_succ, lk21, wb, nn, hb1, hab, Int.toNat_natCast]
  refine ⟨by simp [iD], ?_⟩
  obtain ⟨p, ep⟩ : ∃ p, p = List.drop a (List.take (b + 1) x) := ⟨_, rfl⟩
  have em : List.drop a (List.take (b + 1) (List.map iD x)) = List.map iD p := by rw [ep, List.map_drop, List.map_take]
  rw [← ep] at hpart hpg
  clear ep hb1 hab wb
  refine goE_loop (bad := []) (kp := kp21) (fun m : Nat => { slots := [(1, ints x), (6, .c (.fn (.func 52) [.ptr 0 0])), (11, B (gB l.fa i)), (12, .c (.full (p.map iD))), (13, I ((m + 1 : Nat) : Int)), (52, bools l.fa), (53, I l.fa.length), (54, I i)], heap := [.cells (laC l)], marks := [] }) (fun m => a + m ≤ b ∧ ∀ j, j < a + m → badS l x j = false) (fun m => b - a - m) 0 mo (by kernel_rfl) ?_ ⟨Nat.le_of_lt hup, hal⟩ ?_
  · refine ent_weaken [] rfl rfl (Nat.zero_le _) rfl rfl ?_
    simp (maxSteps := 2000000) only [go_sem, reduceIte, Nat.reduceEqDiff, Nat.reduceLT, List.replicate_succ, lk21, laC, ints, bools, em]
    all_goals first | exact .refl _ | exact ⟨.refl _, .refl _⟩ | exact ⟨.refl _, .refl _, .refl _⟩ | exact ⟨.refl _, _, rfl⟩ | exact ⟨_, rfl⟩ | exact ⟨.refl _, [], by simp⟩ | exact ⟨[], by simp⟩
  rintro m ⟨hm, hal2⟩
  simp (maxSteps := 2000000) only [go_sem, reduceIte, Nat.reduceEqDiff, Nat.reduceAdd, List.replicate_succ, lk21, laC, ints, bools]
  by_cases hml : a + m < b
  · have hml' : ((m + 1 : Nat) : Int) < p.length := by omega
    have hm0 : (m : Int) < p.length := by omega
    have v1 := hpg m (by omega)
    have v2 := hpg (m + 1) (by omega)
    have hdd := hdir (a + m + 1) (by omega) (by omega)
    have hbs : badS l x (a + m) = if dir l (a + m + 1) then decide (gI x (a + m) < gI x (a + m + 1)) else decide (gI x (a + m + 1) < gI x (a + m)) := rfl
    have mm : b - a - (m + 1) < b - a - m := by omega
    have h1000 : m < 1000 := by omega
    have hnext : a + m + 1 < l.we.length := by omega
    have hle : a + (m + 1) ≤ b := by omega
    have hal3 : badS l x (a + m) = false → ∀ j, j < a + (m + 1) → badS l x j = false := fun hb j hj => by
      by_cases e : j = a + m
      · subst e; exact hb
      · exact hal2 j (by omega)
    rw [show a + (m + 1) = a + m + 1 from rfl] at v2
    rw [hdd] at hbs
    have wp : wr .i64 (((m + 1 : Nat) : Int) - 1) = (m : Int) := wr_pred' m h1000
    have w7 := wr_succ (i := m + 1) (n := 1002) (by omega) (by decide)
    cases hdir : gB l.fa i with
    | true =>
      rw [hdir, if_pos rfl] at hbs
      by_cases c : gI x (a + m) < gI x (a + m + 1)
      · have e := ctE_16 h0 h1 hall hnext (by rw [hbs, decide_eq_true c]) hal2
        simp (maxSteps := 2000000) only [go_sem, reduceIte, Nat.reduceEqDiff, Nat.reduceAdd, List.replicate_succ, lk21, nn, wp, hml', hm0, v1, v2, iD, c, e]
      · have hb : badS l x (a + m) = false := by rw [hbs, decide_eq_false c]
        simp (maxSteps := 2000000) only [go_sem, reduceIte, Nat.reduceEqDiff, Nat.reduceAdd, List.replicate_succ, lk21, nn, wp, hml', hm0, v1, v2, iD, c, w7]
        refine ⟨m + 1, ⟨hle, hal3 hb⟩, mm, ?_⟩
        refine ent_weaken [] rfl rfl (Nat.zero_le _) rfl rfl ?_
        simp (maxSteps := 2000000) only [go_sem, reduceIte, Nat.reduceEqDiff, Nat.reduceLT, List.replicate_succ, lk21, laC, ints, bools]
        all_goals first | exact .refl _ | exact ⟨.refl _, .refl _⟩ | exact ⟨.refl _, .refl _, .refl _⟩ | exact ⟨.refl _, _, rfl⟩ | exact ⟨_, rfl⟩ | exact ⟨.refl _, [], by simp⟩ | exact ⟨[], by simp⟩
    | false =>
      rw [hdir, if_neg (by decide)] at hbs
      by_cases c : gI x (a + m + 1) < gI x (a + m)
      · have e := ctE_16 h0 h1 hall hnext (by rw [hbs, decide_eq_true c]) hal2
        simp (maxSteps := 2000000) only [go_sem, reduceIte, Nat.reduceEqDiff, Nat.reduceAdd, List.replicate_succ, lk21, nn, wp, hml', hm0, v1, v2, iD, c, e]
      · have hb : badS l x (a + m) = false := by rw [hbs, decide_eq_false c]
        simp (maxSteps := 2000000) only [go_sem, reduceIte, Nat.reduceEqDiff, Nat.reduceAdd, List.replicate_succ, lk21, nn, wp, hml', hm0, v1, v2, iD, c, w7]
        refine ⟨m + 1, ⟨hle, hal3 hb⟩, mm, ?_⟩
        refine ent_weaken [] rfl rfl (Nat.zero_le _) rfl rfl ?_
        simp (maxSteps := 2000000) only [go_sem, reduceIte, Nat.reduceEqDiff, Nat.reduceLT, List.replicate_succ, lk21, laC, ints, bools]
        all_goals first | exact .refl _ | exact ⟨.refl _, .refl _⟩ | exact ⟨.refl _, .refl _, .refl _⟩ | exact ⟨.refl _, _, rfl⟩ | exact ⟨_, rfl⟩ | exact ⟨.refl _, [], by simp⟩ | exact ⟨[], by simp⟩
  · have hml' : ¬ ((m + 1 : Nat) : Int) < p.length := by omega
    have eb : a + m = b := by omega
    rw [eb] at hal2
    simp (maxSteps := 2000000) only [go_sem, reduceIte, Nat.reduceEqDiff, Nat.reduceAdd, List.replicate_succ, lk21, hml', wi]
    refine ⟨i + 1, ⟨hlt, by rw [hp2]; exact hal2⟩, mi, ?_⟩
    refine ent_weaken [] rfl rfl (Nat.zero_le _) rfl rfl ?_
    simp (maxSteps := 2000000) only [go_sem, reduceIte, Nat.reduceEqDiff, Nat.reduceLT, List.replicate_succ, lk21, laC, ints, bools]
    all_goals first | exact .refl _ | exact ⟨.refl _, .refl _⟩ | exact ⟨.refl _, .refl _, .refl _⟩ | exact ⟨.refl _, _, rfl⟩ | exact ⟨_, rfl⟩ | exact ⟨.refl _, [], by simp⟩ | exact ⟨[], by simp⟩
/-- The flux of a lantern. -/
theorem lam47 (x : List Int) (k : Nat) (hk : k < x.length) (H : List AB) (b : Nat) (hb : H[b]? = some (.cells [.d (.sl (x.map iD))])) : ACall Try.prog 47 [I k, .c (.ptr b 0)] H (one (I (gI x k)) H) := by
  have lb := (List.getElem?_eq_some_iff.1 hb).1
  refine ACall.low_of Try.func47 rfl rfl (fun hH => ?_)
  refine acall_atE (bad := []) (kp := kp47) (X := tx) (nt := 8) (rs := [.tmp 3]) Try.func47 rfl rfl rfl rfl mo (by kernel_rfl) (by simp [V.low, C.low, lb]) hH (fun hf => ?_)
  have hk' : (k : Int) < x.length := by omega
  have g1 := gI_lt hk
  simp (maxSteps := 2000000) only [go_sem, reduceIte, Nat.reduceEqDiff, Nat.reduceAdd, List.replicate_succ, lk21, lk47, hb, hk', nn, g1, iD]
  all_goals first | exact .refl _ | exact ⟨.refl _, .refl _⟩ | exact ⟨.refl _, .refl _, .refl _⟩ | exact ⟨.refl _, _, rfl⟩ | exact ⟨_, rfl⟩ | exact ⟨.refl _, [], by simp⟩ | exact ⟨[], by simp⟩
set_option maxHeartbeats 1000000 in
theorem flux17 (l : La) (x : List Int) : Pure Try.prog 17 [laV l, ints x] (.tup [I (fxN l x), I (ctE l x)]) := by
  refine pure_wkE (bad := []) (kp := kp17) (X := tx) (nt := 17) (rs := [.tmp 4, .tmp 5]) Try.func17 rfl rfl rfl rfl mo (by kernel_rfl) rfl rfl (fun hf => ?_)
  have hc := true21 l x
  unfold laV laC ints at hc
  simp (maxSteps := 2000000) only [go_sem, reduceIte, Nat.reduceEqDiff, Nat.reduceAdd, List.replicate_succ, lk21, lk17, laV, laC, ints]
  refine aops_pure' (hc) rfl rfl (by first | exact wk_refls _ | (repeat constructor)) ?_
  by_cases h : ctE l x = 0
  · have ok := okLa_n (ctE_true h).1
    have hx := (ctE_true h).2.1
    obtain ⟨n2, n91⟩ := ok.n91
    have hs := sum46f l.we 47 [.ptr 1 0] (gI x) [.cells (laC l), .cells [.d (.sl (x.map iD))]] rfl rfl (by omega) ok.wr (fun k hk => by have := true_200 h hk; omega) (fun k hk => lam47 x k (by omega) _ 1 rfl)
    have e : fxN l x = sumW (gI l.we) (gI x) l.we.length := by unfold fxN; rw [if_pos h]
    unfold laC at hs
    unfold ints at hs
    simp (maxSteps := 2000000) only [go_sem, reduceIte, Nat.reduceEqDiff, Nat.reduceAdd, Nat.reduceBEq, List.replicate_succ, lk21, lk17, h]
    refine aops_at (hs) rfl rfl (by first | exact wk_refls _ | (repeat constructor)) ?_
    simp (maxSteps := 2000000) only [go_sem, reduceIte, Nat.reduceEqDiff, List.replicate_succ, lk21, lk17, e, h]
    all_goals first | exact .refl _ | exact ⟨.refl _, .refl _⟩ | exact ⟨.refl _, .refl _, .refl _⟩ | exact ⟨.refl _, _, rfl⟩ | exact ⟨_, rfl⟩ | exact ⟨.refl _, [], by simp⟩ | exact ⟨[], by simp⟩
  · have e : fxN l x = 0 := by unfold fxN; rw [if_neg h]
    simp (maxSteps := 2000000) only [go_sem, reduceIte, Nat.reduceEqDiff, Nat.reduceAdd, List.replicate_succ, lk21, lk17, h, e]
    all_goals first | exact .refl _ | exact ⟨.refl _, .refl _⟩ | exact ⟨.refl _, .refl _, .refl _⟩ | exact ⟨.refl _, _, rfl⟩ | exact ⟨_, rfl⟩ | exact ⟨.refl _, [], by simp⟩ | exact ⟨[], by simp⟩
end Go.Proofs.Ytliamojogmlgjaa
