/- Zones: a test between two angles, by the program. -/
import Derived.Test.YtliamojogmlgjaaZ19
set_option linter.unusedSimpArgs false
set_option linter.unusedVariables false
set_option maxRecDepth 100000
namespace Go.Proofs.Ytliamojogmlgjaa
open Go Go.Abs Go.Proofs

theorem take_cons {α : Type} {l : List α} {f : α → List D} {n : Nat} (hf : ∀ x, (f x).length = n) {p : Nat} (h : p < l.length) : ∃ y z, (l.map f).take (p + 1) = y :: z ∧ (y.length == n) = true ∧ z.length = p ∧ (z.all fun r => r.length == n) = true := by
  cases l with
  | nil => simp at h
  | cons a l =>
    refine ⟨f a, (l.map f).take p, rfl, by simp [hf], ?_, ?_⟩
    · rw [List.length_take, List.length_map]; simp at h; omega
    · rw [List.all_eq_true]
      intro r hr
      obtain ⟨x, _, rfl⟩ := List.mem_map.1 (List.mem_of_mem_take hr)
      simp [hf]
theorem drop_rows {α : Type} {l : List α} {f : α → List D} {n : Nat} (hf : ∀ x, (f x).length = n) (p : Nat) : ∃ S, (l.map f).drop p = S ∧ S.length = l.length - p ∧ (S.all fun r => r.length == n) = true := by
  refine ⟨_, rfl, by rw [List.length_drop, List.length_map], ?_⟩
  rw [List.all_eq_true]
  intro r hr
  obtain ⟨x, _, rfl⟩ := List.mem_map.1 (List.mem_of_mem_drop hr)
  simp [hf]
set_option maxHeartbeats 4000000 in
theorem tested64i (l : La) (ok : OkLa l) (h10 : l.an.length ≤ 10) (k : Nat) (hk : k < l.we.length) (r : Rg) (hr : 0 ≤ r.lo ∧ r.lo ≤ r.hi ∧ r.hi ≤ 200) (ha : ¬ angN l k < l.an.length) :
    Pure Try.prog 64 [tbV l, I k, rgV r] (.tup [I (tdN l k r), B (tdO l k r)]) := by
  refine pure_wkE (bad := [5, 7, 10, 11, 12, 10003, 10010, 10011, 10012]) (kp := kp64) (X := tx) (nt := 174) (rs := [.tmp 6, .tmp 7]) Try.func64 rfl rfl rfl rfl mo (by kernel_rfl) rfl rfl (fun hf => ?_)
  have m2 := ok.m2
  have m11 := ok.m11
  have hli := ok.li
  have hfa := ok.fa
  have p0 : (0 : Int) < l.an.length := by omega
  have g0 := gI_lt (l := l.an) (i := 0) (by omega)
  have b0 := ok.a0 0 (by omega)
  have n91 := ok.n91.2
  obtain ⟨i, hi, q1, q2, ep⟩ := ins_gap ok hk ha
  have hb := bs74 l.an (gI l.an 0 + k) (fun i j hij hj => ok.le hij hj) (by omega)
  have eb : bsN l.an (gI l.an 0 + k) = i + 1 := bsN_eq (by omega) (fun q hq => by have := ok.le (i := q) (j := i) (by omega) (by omega); omega) (fun q h1 h2 => by have := ok.le h1 h2; omega)
  have hbt : (decide (i + 1 < l.an.length) && decide (gI l.an (i + 1) = gI l.an 0 + k)) = false := by
    rw [decide_eq_true hi, decide_eq_false (by omega)]; rfl
  rw [eb, hbt] at hb
  unfold ints at hb
  have hto := tsO_i ha r
  have ets := tsL_i ha r
  have okT := ok_i ok h10 hk ha hr
  have eT : (tsI l k r) = ⟨insL (i + 1) (gI l.an 0 + k) l.an, insL (i + 1) r l.li, insL (i + 1) (gB l.fa i) l.fa, l.we⟩ := by unfold tsI; rw [ep]; rfl
  obtain ⟨rl, rh⟩ := r
  have d1 : ((i + 1 : Nat) : Int) ≤ l.an.length := by omega
  have d2 : ((i + 1 : Nat) : Int) ≤ l.li.length := by omega
  have d3 : ((i + 1 : Nat) : Int) ≤ l.fa.length := by omega
  have d4 : (i : Int) < l.fa.length := by omega
  have gf := gB_lt (l := l.fa) (i := i) (by omega)
  have i1000 : i < 1000 := by omega
  obtain ⟨y1, z1, e1, f1, g1, h1⟩ := take_cons (l := l.an) (f := iD) (n := 1) (fun _ => rfl) (p := i) (by omega)
  obtain ⟨y2, z2, e2, f2, g2, h2⟩ := take_cons (l := l.li) (f := rgD) (n := 2) (fun _ => rfl) (p := i) (by omega)
  obtain ⟨y3, z3, e3, f3, g3, h3⟩ := take_cons (l := l.fa) (f := bD) (n := 1) (fun _ => rfl) (p := i) (by omega)
  obtain ⟨s1, u1, v1, x1⟩ := drop_rows (l := l.an) (f := iD) (n := 1) (fun _ => rfl) (i + 1)
  obtain ⟨s2, u2, v2, x2⟩ := drop_rows (l := l.li) (f := rgD) (n := 2) (fun _ => rfl) (i + 1)
  obtain ⟨s3, u3, v3, x3⟩ := drop_rows (l := l.fa) (f := bD) (n := 1) (fun _ => rfl) (i + 1)
  have c1 : (decide ((i + 1 + 1 + (i + 1 + 1) / 4 + 256) * 8 ≤ 281474976710656) && decide (i ≤ 140737488355326)) = true := by simp; omega
  have c2 : (decide ((i + 1 + 1 + (i + 1 + 1) / 4 + 256) * 16 ≤ 281474976710656) && decide (i ≤ 140737488355326)) = true := by simp; omega
  have c3 : (decide ((i + 1 + 1 + (i + 1 + 1) / 4 + 256) * 1 ≤ 281474976710656) && decide (i ≤ 140737488355326)) = true := by simp; omega
  have a1 : (l.an.all fun x => (iD x).length == 1) = true := by simp [iD]
  have a2 : (l.li.all fun x => (rgD x).length == 2) = true := by simp [rgD]
  have a3 : (l.fa.all fun x => (bD x).length == 1) = true := by simp [bD]
  have t3 : (List.drop 3 (tbD l)) = .sl (l.we.map iD) :: (tbD l).drop 4 := rfl
  have t2 : (List.drop 2 (tbD l)) = .sl (l.fa.map bD) :: (tbD l).drop 3 := rfl
  have t1 : (List.drop 1 (tbD l)) = .sl (l.li.map rgD) :: (tbD l).drop 2 := rfl
  have t1' : (tbD l).tail = .sl (l.li.map rgD) :: (tbD l).drop 2 := rfl
  have w1 : wr .i64 (gI l.an 0 + (k : Int)) = gI l.an 0 + (k : Int) := wr_in (by omega)
  have wp : wr .i64 (((i + 1 : Nat) : Int) - 1) = (i : Int) := wr_pred i i1000
  simp only [go_sem, reduceIte, Nat.reduceEqDiff, Nat.reduceAdd, Nat.reduceLeDiff, Nat.reduceBEq, Int.reduceLE, Int.reduceToNat, List.replicate_succ, lk64, tbV, tbD_len, tbD_an, nn, p0, g0, iD, w1, rgV, rgC]
  refine aops_pure' (hb) rfl rfl (by first | exact wk_refls _ | (repeat constructor)) ?_
  simp only [go_sem, reduceIte, Nat.reduceEqDiff, Nat.reduceAdd, Nat.reduceLeDiff, Nat.reduceBEq, List.replicate_succ, lk64, tbD_len, tbD_an, t1, t1', t2, t3, List.length_cons, List.getElem?_cons_zero]
  refine stop_mk _ Ent.refl ?_
  have k1 : List.take l.an.length (l.an.map iD) = l.an.map iD := List.take_of_length_le (by simp)
  have k2 : List.take l.li.length (l.li.map rgD) = l.li.map rgD := List.take_of_length_le (by simp)
  have k3 : List.take l.fa.length (l.fa.map bD) = l.fa.map bD := List.take_of_length_le (by simp)
  simp only [go_sem, reduceIte, Nat.reduceEqDiff, Nat.reduceAdd, Nat.reduceLT, Nat.reduceLeDiff, Nat.reduceBEq, Nat.reduceMul, Int.reduceToNat, List.replicate_succ, lk64, tbD_len, tbD_an, t1, t1', t2, t3, List.length_cons, List.getElem?_cons_zero, nn, d1, d2, d3, d4, gf, wp, e1, e2, e3, f1, f2, f3, g1, g2, g3, h1, h2, h3, u1, u2, u3, v1, v2, v3, x1, x2, x3, c1, c2, c3, a1, a2, a3, Int.toNat_natCast, k1, k2, k3, List.length_append, List.all_append, List.length_nil, Nat.zero_add, Int.le_refl, decide_true]
  have wn1 : (decide ((i + 1 + 1 + (l.an.length - (i + 1)) + (i + 1 + 1 + (l.an.length - (i + 1))) / 4 + 256) * 8 ≤ 281474976710656) && decide (i + 1 + 1 + (l.an.length - (i + 1)) ≤ 140737488355328)) = true := by simp; omega
  refine ⟨wn1, pairsOk_ord (by kernel_rfl), ?_⟩
  have r1 : y1 :: (z1 ++ [[D.int .i64 (gI l.an 0 + k)]] ++ s1) = (insL (i + 1) (gI l.an 0 + k) l.an).map iD := by
    rw [insL, List.map_append, List.map_cons, List.map_take, List.map_drop, e1, u1]; simp [iD]
  rw [r1]
  refine stop_mk { slots := [(0, .c (.dp (tbD l))), (5, .c (.ptr 0 0)), (9, I ((i + 1 : Nat) : Int)), (11, .c (.ptr 1 0))], heap := [.cells [.d (.int .i64 rl), .d (.int .i64 rh)], .cells [.d (.sl ((insL (i + 1) (gI l.an 0 + k) l.an).map iD)), .full [], .full [], .d (.sl (l.we.map iD))]], marks := [] } ((ent_cells 1 rfl (by repeat constructor)).trans (ent_weaken [_, _] rfl rfl (Nat.zero_le _) rfl rfl ?_)) ?_
  · simp only [go_sem, reduceIte, Nat.reduceEqDiff, Nat.reduceAdd, Nat.reduceLT, List.replicate_succ]
    all_goals first | exact .refl _ | exact ⟨.refl _, .refl _⟩ | exact ⟨.refl _, .refl _, .refl _⟩ | exact ⟨.refl _, _, rfl⟩ | exact ⟨_, rfl⟩ | exact ⟨.refl _, [], by simp⟩ | exact ⟨[], by simp⟩
  simp only [go_sem, reduceIte, Nat.reduceEqDiff, Nat.reduceAdd, Nat.reduceLT, Nat.reduceLeDiff, Nat.reduceBEq, Nat.reduceMul, Int.reduceToNat, List.replicate_succ, lk64, tbD_len, tbD_an, t1, t1', t2, t3, List.length_cons, List.getElem?_cons_zero, nn, d1, d2, d3, d4, gf, wp, e1, e2, e3, f1, f2, f3, g1, g2, g3, h1, h2, h3, u1, u2, u3, v1, v2, v3, x1, x2, x3, c1, c2, c3, a1, a2, a3, Int.toNat_natCast, k1, k2, k3, List.length_append, List.all_append, List.length_nil, Nat.zero_add, Int.le_refl, decide_true]
  have wn2 : (decide ((i + 1 + 1 + (l.li.length - (i + 1)) + (i + 1 + 1 + (l.li.length - (i + 1))) / 4 + 256) * 16 ≤ 281474976710656) && decide (i + 1 + 1 + (l.li.length - (i + 1)) ≤ 140737488355328)) = true := by simp; omega
  refine ⟨wn2, pairsOk_ord (by kernel_rfl), ?_⟩
  have r2 : y2 :: (z2 ++ [[D.int .i64 rl, D.int .i64 rh]] ++ s2) = (insL (i + 1) ⟨rl, rh⟩ l.li).map rgD := by
    rw [insL, List.map_append, List.map_cons, List.map_take, List.map_drop, e2, u2]; simp [rgD]
  rw [r2]
  refine stop_mk { slots := [(0, .c (.dp (tbD l))), (9, I ((i + 1 : Nat) : Int)), (11, .c (.ptr 1 0))], heap := [.cells [.d (.int .i64 rl), .d (.int .i64 rh)], .cells [.d (.sl ((insL (i + 1) (gI l.an 0 + k) l.an).map iD)), .d (.sl ((insL (i + 1) ⟨rl, rh⟩ l.li).map rgD)), .full [], .d (.sl (l.we.map iD))]], marks := [] } ((ent_cells 1 rfl (by repeat constructor)).trans (ent_weaken [_, _] rfl rfl (Nat.zero_le _) rfl rfl ?_)) ?_
  · simp only [go_sem, reduceIte, Nat.reduceEqDiff, Nat.reduceAdd, Nat.reduceLT, List.replicate_succ]
    all_goals first | exact .refl _ | exact ⟨.refl _, .refl _⟩ | exact ⟨.refl _, .refl _, .refl _⟩ | exact ⟨.refl _, _, rfl⟩ | exact ⟨_, rfl⟩ | exact ⟨.refl _, [], by simp⟩ | exact ⟨[], by simp⟩
  have a4 : (l.fa.all fun x => true) = true := by simp
  simp only [go_sem, reduceIte, Nat.reduceEqDiff, Nat.reduceAdd, Nat.reduceLT, Nat.reduceLeDiff, Nat.reduceBEq, Nat.reduceMul, Int.reduceToNat, List.replicate_succ, lk64, bD, tbD_len, tbD_an, t1, t1', t2, t3, List.length_cons, List.getElem?_cons_zero, nn, d1, d2, d3, d4, gf, wp, e1, e2, e3, f1, f2, f3, g1, g2, g3, h1, h2, h3, u1, u2, u3, v1, v2, v3, x1, x2, x3, c1, c2, c3, a1, a2, a3, a4, Int.toNat_natCast, k1, k2, k3, List.length_append, List.all_append, List.length_nil, Nat.zero_add, Int.le_refl, decide_true]
  have wn3 : (decide ((i + 1 + 1 + (l.fa.length - (i + 1)) + (i + 1 + 1 + (l.fa.length - (i + 1))) / 4 + 256) * 1 ≤ 281474976710656) && decide (i + 1 + 1 + (l.fa.length - (i + 1)) ≤ 140737488355328)) = true := by simp; omega
  refine ⟨wn3, pairsOk_ord (by kernel_rfl), ?_⟩
  have r3 : y3 :: (z3 ++ [[D.bool (gB l.fa i)]] ++ s3) = (insL (i + 1) (gB l.fa i) l.fa).map bD := by
    rw [insL, List.map_append, List.map_cons, List.map_take, List.map_drop, e3, u3]; simp [bD]
  rw [r3]
  refine stop_mk { slots := [(11, .c (.ptr 1 0))], heap := [.cells [.d (.int .i64 rl), .d (.int .i64 rh)], .cells [.d (.sl ((insL (i + 1) (gI l.an 0 + k) l.an).map iD)), .d (.sl ((insL (i + 1) ⟨rl, rh⟩ l.li).map rgD)), .d (.sl ((insL (i + 1) (gB l.fa i) l.fa).map bD)), .d (.sl (l.we.map iD))]], marks := [] } ((ent_cells 1 rfl (by repeat constructor)).trans (ent_weaken [_, _] rfl rfl (Nat.zero_le _) rfl rfl ?_)) ?_
  · simp only [go_sem, reduceIte, Nat.reduceAdd, Nat.reduceLT, List.replicate_succ]
    all_goals first | exact .refl _ | exact ⟨.refl _, .refl _⟩ | exact ⟨.refl _, .refl _, .refl _⟩ | exact ⟨.refl _, _, rfl⟩ | exact ⟨_, rfl⟩ | exact ⟨.refl _, [], by simp⟩ | exact ⟨[], by simp⟩
  have eoo : tdO l k ⟨rl, rh⟩ = !dbB (tsI l k ⟨rl, rh⟩) := by unfold tdO; rw [hto, ets]; rfl
  have enn : tdN l k ⟨rl, rh⟩ = if tdO l k ⟨rl, rh⟩ then spHi (tsI l k ⟨rl, rh⟩) - spLo (tsI l k ⟨rl, rh⟩) else 0 := by unfold tdN; rw [ets]
  have hc := clash55 _ okT
  have hz := clash_zero okT
  have hsome := clash_some (l := tsI l k ⟨rl, rh⟩)
  have hiff := clash_iff okT
  have ht := table73 _ okT
  have hs := span58 _ okT
  have hlo := spLo_range okT
  have hhi := spHi_range okT
  have elv : laC (tsI l k ⟨rl, rh⟩) = [.d (.sl ((insL (i + 1) (gI l.an 0 + k) l.an).map iD)), .d (.sl ((insL (i + 1) ⟨rl, rh⟩ l.li).map rgD)), .d (.sl ((insL (i + 1) (gB l.fa i) l.fa).map bD)), .d (.sl (l.we.map iD))] := by rw [eT]; rfl
  clear eT
  generalize tsI l k ⟨rl, rh⟩ = T at *
  unfold laV at hc ht
  rw [elv] at hc ht
  unfold pairV pairC at hc
  unfold tbV at ht hs
  unfold rgV rgC at hs
  clear w1 wp
  simp only [go_sem, reduceIte, Nat.reduceEqDiff, Nat.reduceAdd, Nat.reduceBEq, List.replicate_succ, lk64]
  refine aops_pure' (hc) rfl rfl (by first | exact wk_refls _ | (repeat constructor)) ?_
  cases hd : dbB T with
  | true =>
    obtain ⟨s1, s2, s3⟩ := hsome (hiff.1 hd)
    have hne : ¬ ((clashF T).2 : Int) = 0 := by omega
    rw [hd] at eoo
    rw [eoo] at enn
    have enn : tdN l k ⟨rl, rh⟩ = 0 := enn
    have eoo : tdO l k ⟨rl, rh⟩ = false := eoo
    simp only [go_sem, reduceIte, Nat.reduceEqDiff, Nat.reduceAdd, Nat.reduceBEq, List.replicate_succ, lk64, hne, decide_false, Bool.and_false, Bool.not_false, eoo, enn]
    all_goals first | exact .refl _ | exact ⟨.refl _, .refl _⟩ | exact ⟨.refl _, .refl _, .refl _⟩ | exact ⟨.refl _, _, rfl⟩ | exact ⟨_, rfl⟩ | exact ⟨.refl _, [], by simp⟩ | exact ⟨[], by simp⟩
  | false =>
    have hp := hz.2 hd
    rw [hd] at eoo
    rw [eoo] at enn
    have enn : tdN l k ⟨rl, rh⟩ = spHi T - spLo T := enn
    have eoo : tdO l k ⟨rl, rh⟩ = true := eoo
    have ws : wr .i64 (spHi T - spLo T) = spHi T - spLo T := wr_in (by omega)
    simp only [go_sem, reduceIte, Nat.reduceEqDiff, Nat.reduceAdd, Nat.reduceBEq, List.replicate_succ, lk64, hp]
    refine aops_pure' (ht) rfl rfl (by first | exact wk_refls _ | (repeat constructor)) ?_
    simp only [go_sem, reduceIte, Nat.reduceEqDiff, List.replicate_succ, lk64]
    refine aops_pure' (hs) rfl rfl (by first | exact wk_refls _ | (repeat constructor)) ?_
    simp only [go_sem, reduceIte, Nat.reduceEqDiff, Nat.reduceAdd, Nat.reduceLeDiff, Nat.reduceBEq, List.replicate_succ, lk64, ws, eoo, enn]
    all_goals first | exact .refl _ | exact ⟨.refl _, .refl _⟩ | exact ⟨.refl _, .refl _, .refl _⟩ | exact ⟨.refl _, _, rfl⟩ | exact ⟨_, rfl⟩ | exact ⟨.refl _, [], by simp⟩ | exact ⟨[], by simp⟩
theorem tested64 (l : La) (ok : OkLa l) (h10 : l.an.length ≤ 10) (k : Nat) (hk : k < l.we.length) (r : Rg) (hr : 0 ≤ r.lo ∧ r.lo ≤ r.hi ∧ r.hi ≤ 200) :
    Pure Try.prog 64 [tbV l, I k, rgV r] (.tup [I (tdN l k r), B (tdO l k r)]) := by
  by_cases ha : angN l k < l.an.length
  · exact tested64a l ok h10 k hk r hr ha
  · exact tested64i l ok h10 k hk r hr ha
end Go.Proofs.Ytliamojogmlgjaa
