/- Zones: Coated. -/
import Derived.Test.YtliamojogmlgjaaZ14
set_option linter.unusedSimpArgs false
set_option linter.unusedVariables false
set_option maxRecDepth 100000
namespace Go.Proofs.Ytliamojogmlgjaa
open Go Go.Abs Go.Proofs
def kp31 : List (Nat × List Nat) := [(0, [2, 3, 4]), (1, [2, 3, 4, 6]), (2, [2, 3, 4, 6, 13]), (3, [4, 5]), (4, [2, 3, 4, 19]), (5, [4, 5]), (6, [2, 3, 4, 7, 8]), (7, [2, 3, 4, 7, 8, 27]), (8, [4, 5]), (9, [3, 4, 7, 9]), (10, [4, 5])]
theorem lk31 : lookK kp31 0 = some [2, 3, 4] ∧ lookK kp31 1 = some [2, 3, 4, 6] ∧ lookK kp31 2 = some [2, 3, 4, 6, 13] ∧ lookK kp31 3 = some [4, 5] ∧ lookK kp31 4 = some [2, 3, 4, 19] ∧ lookK kp31 5 = some [4, 5] ∧ lookK kp31 6 = some [2, 3, 4, 7, 8] ∧ lookK kp31 7 = some [2, 3, 4, 7, 8, 27] ∧ lookK kp31 8 = some [4, 5] ∧ lookK kp31 9 = some [3, 4, 7, 9] ∧ lookK kp31 10 = some [4, 5] := ⟨rfl, rfl, rfl, rfl, rfl, rfl, rfl, rfl, rfl, rfl, rfl⟩
def kp60 : List (Nat × List Nat) := [(0, [2, 3, 4]), (1, [5])]
theorem lk60 : lookK kp60 0 = some [2, 3, 4] ∧ lookK kp60 1 = some [5] := ⟨rfl, rfl⟩
def kp61 : List (Nat × List Nat) := [(0, [0, 1, 2]), (1, [4])]
theorem lk61 : lookK kp61 0 = some [0, 1, 2] ∧ lookK kp61 1 = some [4] := ⟨rfl, rfl⟩

set_option maxHeartbeats 2000000 in
theorem cc61 (l : La) (H : List AB) (b1 b2 g : Nat) (f : Nat → Int) (s : Int) (k : Nat) (s0 : 0 ≤ s) (s1 : s ≤ 1000) (hf0 : 0 ≤ f k ∧ f k ≤ 200)
    (hb1 : H[b1]? = some (.cells [.mv (.func g) (.dp (tbD l))])) (hb2 : H[b2]? = some (.cells [.d (.int .i64 s)])) (hp : Pure Try.prog g [.c (.dp (tbD l)), I k] (I (f k))) :
    ACall Try.prog 61 [I k, .c (.ptr b1 0), .c (.ptr b2 0)] H (one (I (ctF f s k)) H) := by
  have l1 := (List.getElem?_eq_some_iff.1 hb1).1
  have l2 := (List.getElem?_eq_some_iff.1 hb2).1
  refine ACall.low_of Try.func61 rfl rfl (fun hH => ?_)
  refine acall_atE (bad := []) (kp := kp61) (X := tx) (nt := 11) (rs := [.tmp 4]) Try.func61 rfl rfl rfl rfl mo (by kernel_rfl) rfl hH (fun hf => ?_)
  have t71 : tx.tt 71 = some ti71 := by kernel_rfl
  obtain ⟨c1, c2, c3, c4⟩ := ct_range hf0.1 hf0.2 s0 s1
  have td : Int.tdiv (f k * s) 1000 = f k * s / 1000 := Int.tdiv_eq_ediv_of_nonneg c1
  have w1 : wr .i64 (f k * s) = f k * s := wr_in (by omega)
  have w2 : wr .i64 (f k * s / 1000) = f k * s / 1000 := wr_in (by clear w1; omega)
  simp (maxSteps := 2000000) only [go_sem, reduceIte, Nat.reduceEqDiff, Nat.reduceAdd, List.replicate_succ, lk31, lk60, lk61, hb1, hb2, t71, ti71]
  refine dops_pure' (hp) rfl rfl (by first | exact wk_refls _ | (repeat constructor)) (by kernel_rfl) ?_
  simp (maxSteps := 2000000) only [go_sem, reduceIte, Nat.reduceEqDiff, Nat.reduceAdd, Int.reduceEq, List.replicate_succ, lk31, lk60, lk61, hb2, w1, td, w2, ctF]
  all_goals first | exact .refl _ | exact ⟨.refl _, .refl _⟩ | exact ⟨.refl _, .refl _, .refl _⟩ | exact ⟨.refl _, _, rfl⟩ | exact ⟨_, rfl⟩ | exact ⟨.refl _, [], by simp⟩ | exact ⟨[], by simp⟩
set_option maxHeartbeats 2000000 in
theorem coat60 (l : La) (ok : OkLa l) (g : Nat) (f : Nat → Int) (s : Int) (s0 : 0 ≤ s) (s1 : s ≤ 1000) (hf0 : ∀ k, k < l.we.length → 0 ≤ f k ∧ f k ≤ 200) (hp : ∀ k, k < l.we.length → Pure Try.prog g [.c (.dp (tbD l)), I k] (I (f k)))
    (H : List AB) (h0 : H[0]? = some (.cells (laC l))) : ACall Try.prog 60 [.c (.mv (.func g) (.dp (tbD l))), I s, .c (.ptr 0 0)] H (one (I (sumW (gI l.we) (ctF f s) l.we.length)) H) := by
  have l0 := (List.getElem?_eq_some_iff.1 h0).1
  refine ACall.low_of Try.func60 rfl rfl (fun hH => ?_)
  refine acall_atE (bad := []) (kp := kp60) (X := tx) (nt := 10) (rs := [.tmp 5]) Try.func60 rfl rfl rfl rfl mo (by kernel_rfl) (by simp [V.low, C.low, l0]) hH (fun hf => ?_)
  have n91 := ok.n91.2
  have t71 : tx.tt 71 = some ti71 := by kernel_rfl
  have e1 : (H ++ [AB.cells [C.mv (.func g) (.dp (tbD l))], AB.cells [C.d (.int .i64 s)]])[H.length]? = some (.cells [C.mv (.func g) (.dp (tbD l))]) := by rw [ap0]; rfl
  have e2 : (H ++ [AB.cells [C.mv (.func g) (.dp (tbD l))], AB.cells [C.d (.int .i64 s)]])[H.length + 1]? = some (.cells [C.d (.int .i64 s)]) := by rw [apk]; rfl
  have e0 : (H ++ [AB.cells [C.mv (.func g) (.dp (tbD l))], AB.cells [C.d (.int .i64 s)]])[0]? = some (.cells (laC l)) := ap_lt _ h0
  have hlo : (H ++ [AB.cells [C.mv (.func g) (.dp (tbD l))], AB.cells [C.d (.int .i64 s)]]).all (AB.low (H ++ [AB.cells [C.mv (.func g) (.dp (tbD l))], AB.cells [C.d (.int .i64 s)]]).length) = true := all_low_app hH (by simp) rfl
  have hs := sum46f l.we 61 [.ptr H.length 0, .ptr (H.length + 1) 0] (ctF f s) _ hlo (by simp [C.lowL, C.low]) (by omega) ok.wr (fun k hk => by
    have a := hf0 k hk
    have b := ct_range a.1 a.2 s0 s1
    unfold ctF; omega) (fun k hk => cc61 l _ H.length (H.length + 1) g f s k s0 s1 (hf0 k hk) e1 e2 (hp k hk))
  have ea : H ++ [AB.cells [C.mv (.func g) (.dp (tbD l))]] ++ [AB.cells [C.d (.int .i64 s)]] = H ++ [AB.cells [C.mv (.func g) (.dp (tbD l))], AB.cells [C.d (.int .i64 s)]] := by simp
  have el : (H ++ [AB.cells [C.mv (.func g) (.dp (tbD l))]]).length = H.length + 1 := by simp
  unfold ints at hs
  unfold laC at e0
  simp (maxSteps := 2000000) only [go_sem, reduceIte, Nat.reduceEqDiff, Nat.reduceAdd, Nat.reduceBEq, List.replicate_succ, lk31, lk60, lk61, t71, ti71, ea, el, e0]
  refine aops_at (hs) rfl rfl (by first | exact wk_refls _ | (repeat constructor)) ?_
  simp (maxSteps := 2000000) only [go_sem, reduceIte, Nat.reduceEqDiff, List.replicate_succ, lk31, lk60, lk61]
  all_goals first | exact .refl _ | exact ⟨.refl _, .refl _⟩ | exact ⟨.refl _, .refl _, .refl _⟩ | exact ⟨.refl _, _, rfl⟩ | exact ⟨_, rfl⟩ | exact ⟨.refl _, [], by simp⟩ | exact ⟨[], by simp⟩
set_option maxHeartbeats 4000000 in
theorem coated31 (l : La) (r : Rg) : Pure Try.prog 31 [laV l, rgV r] (.tup [rgV (coR l r), I (coE l r)]) := by
  refine pure_wkE (bad := []) (kp := kp31) (X := tx) (nt := 44) (rs := [.cell 4 40, .tmp 5]) Try.func31 rfl rfl rfl rfl mo (by kernel_rfl) rfl rfl (fun hf => ?_)
  have hl := lamp19 l
  have hw := within48 1000 [r]
  have ho := open57 l
  have ea : [r].all (rgB 1000) = rgB 1000 r := by simp
  rw [ea] at hw
  simp only [rgs, rgD, List.map_cons, List.map_nil] at hw
  unfold laV laC at hl ho
  simp (maxSteps := 2000000) only [go_sem, reduceIte, Nat.reduceEqDiff, Nat.reduceAdd, List.replicate_succ, lk31, lk60, lk61, laV, laC, rgV, rgC]
  refine aops_pure' (hl) rfl rfl (by first | exact wk_refls _ | (repeat constructor)) ?_
  by_cases h0 : okLa l = 0
  case neg =>
    have e := coE_bad h0 r
    have e2 := coR_bad (l := l) (r := r) (by rw [e]; exact h0)
    simp (maxSteps := 2000000) only [go_sem, reduceIte, Nat.reduceEqDiff, Nat.reduceAdd, List.replicate_succ, lk31, lk60, lk61, h0, e, e2, rgV, rgC]
    all_goals first | exact .refl _ | exact ⟨.refl _, .refl _⟩ | exact ⟨.refl _, .refl _, .refl _⟩ | exact ⟨.refl _, _, rfl⟩ | exact ⟨_, rfl⟩ | exact ⟨.refl _, [], by simp⟩ | exact ⟨[], by simp⟩
  have ok := okLa_n h0
  simp (maxSteps := 2000000) only [go_sem, reduceIte, Nat.reduceEqDiff, Nat.reduceAdd, Nat.reduceLeDiff, Nat.reduceBEq, Nat.reduceMul, List.replicate_succ, lk31, lk60, lk61, h0]
  refine aops_pure' (hw) rfl rfl (by first | exact wk_refls _ | (repeat constructor)) ?_
  cases hr : rgB 1000 r with
  | false =>
    have e := coE_3 h0 hr
    have e2 := coR_bad (l := l) (r := r) (by rw [e]; decide)
    simp (maxSteps := 2000000) only [go_sem, reduceIte, Nat.reduceEqDiff, Nat.reduceAdd, List.replicate_succ, lk31, lk60, lk61, e, e2, rgV, rgC]
    all_goals first | exact .refl _ | exact ⟨.refl _, .refl _⟩ | exact ⟨.refl _, .refl _, .refl _⟩ | exact ⟨.refl _, _, rfl⟩ | exact ⟨_, rfl⟩ | exact ⟨.refl _, [], by simp⟩ | exact ⟨[], by simp⟩
  | true =>
  obtain ⟨r0, r1, r2⟩ := (rgB_iff _ _).1 hr
  cases hq : dbB l with
  | true =>
    have e := coE_21 h0 hr hq
    have e2 := coR_bad (l := l) (r := r) (by rw [e]; decide)
    have e3 := spE_21 h0 hq
    rw [opV_bad (by rw [e3]; decide), e3] at ho
    simp (maxSteps := 2000000) only [go_sem, reduceIte, Nat.reduceEqDiff, Nat.reduceAdd, List.replicate_succ, lk31, lk60, lk61]
    refine aops_pure' (ho) rfl rfl (by first | exact wk_refls _ | (repeat constructor)) ?_
    simp (maxSteps := 2000000) only [go_sem, reduceIte, Nat.reduceEqDiff, Nat.reduceAdd, Int.reduceEq, List.replicate_succ, lk31, lk60, lk61, e, e2, rgV, rgC]
    all_goals first | exact .refl _ | exact ⟨.refl _, .refl _⟩ | exact ⟨.refl _, .refl _, .refl _⟩ | exact ⟨.refl _, _, rfl⟩ | exact ⟨_, rfl⟩ | exact ⟨.refl _, [], by simp⟩ | exact ⟨[], by simp⟩
  | false =>
    have e := coE_0 h0 hr hq
    have e2 := coR_0 e
    have e3 := spE_0 h0 hq
    rw [opV_0 e3, e3] at ho
    have k1 := coat60 l ok 62 (bl l) r.lo r0 (by omega) (fun k hk => bl_range ok hk) (fun k hk => low62 l ok k hk) [.cells (laC l), .cells (rgC r), .cells [.d (.int .i64 0), .d (.int .i64 0)]] rfl
    have k2 := coat60 l ok 63 (bh l) r.hi (by omega) r2 (fun k hk => bh_range ok hk) (fun k hk => high63 l ok k hk) [.cells (laC l), .cells (rgC r), .cells [.d (.int .i64 0), .d (.int .i64 0)]] rfl
    unfold laC rgC at k1 k2
    simp (maxSteps := 2000000) only [go_sem, reduceIte, Nat.reduceEqDiff, Nat.reduceAdd, List.replicate_succ, lk31, lk60, lk61]
    refine aops_pure' (ho) rfl rfl (by first | exact wk_refls _ | (repeat constructor)) ?_
    simp (maxSteps := 2000000) only [go_sem, reduceIte, Nat.reduceEqDiff, Nat.reduceAdd, Nat.reduceLeDiff, Nat.reduceBEq, List.replicate_succ, lk31, lk60, lk61, List.isEmpty_cons]
    refine dops_at (k1) rfl rfl (by first | exact wk_refls _ | (repeat constructor)) (by kernel_rfl) ?_
    simp (maxSteps := 2000000) only [go_sem, reduceIte, Nat.reduceEqDiff, Nat.reduceAdd, Nat.reduceBEq, List.replicate_succ, lk31, lk60, lk61, List.isEmpty_cons]
    refine dops_at (k2) rfl rfl (by first | exact wk_refls _ | (repeat constructor)) (by kernel_rfl) ?_
    simp (maxSteps := 2000000) only [go_sem, reduceIte, Nat.reduceEqDiff, Nat.reduceAdd, Nat.reduceLeDiff, Nat.reduceBEq, List.replicate_succ, lk31, lk60, lk61, e, e2, rgV, rgC, coLo, coHi]
    all_goals first | exact .refl _ | exact ⟨.refl _, .refl _⟩ | exact ⟨.refl _, .refl _, .refl _⟩ | exact ⟨.refl _, _, rfl⟩ | exact ⟨_, rfl⟩ | exact ⟨.refl _, [], by simp⟩ | exact ⟨[], by simp⟩
end Go.Proofs.Ytliamojogmlgjaa
