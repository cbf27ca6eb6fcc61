/- Dyes: the statement Proved. -/
import Derived.Test.YtkbnmanfoejoiaaDL5
import Derived.Test.YtkbnmanfoejoiaaD26
import Derived.Test.YtkbnmanfoejoiaaDK0
set_option linter.unusedSimpArgs false
set_option linter.unusedVariables false
set_option maxRecDepth 100000
namespace Go.Proofs.Ytkbnmanfoejoiaa
open Go Go.Abs Go.Proofs
def kp6 : List (Nat × List Nat) := [(0, [0, 2, 3, 5]), (1, [0, 2, 3, 5, 44]), (2, [8]), (3, [0, 2, 3, 5, 9, 10, 11]), (4, [0, 2, 3, 5, 9, 10, 11, 12, 13]), (5, [0, 2, 3, 5, 9, 10, 11, 12, 13, 14, 15]), (6, [0, 2, 3, 5, 9, 10, 11, 12, 13, 14, 15, 16, 17]), (7, [0, 2, 3, 5, 9, 10, 11, 12, 14, 96]), (8, [8]), (9, [0, 2, 3, 5, 9, 10, 11, 12, 14, 107]), (10, [8]), (11, [0, 2, 3, 5, 9, 10, 11, 12, 14, 109]), (12, [0, 2, 3, 5, 9, 10, 11, 12, 14, 18, 19]), (13, [0, 2, 3, 5, 10, 11, 12, 14, 18, 19, 20, 21]), (14, [0, 2, 3, 5, 10, 11, 12, 14, 144]), (15, [8]), (16, [0, 3, 5, 10, 11, 12, 14, 22]), (17, [0, 3, 5, 10, 11, 12, 14, 22, 23, 24]), (18, [0, 3, 5, 10, 11, 12, 14, 23, 24, 26]), (19, [0, 3, 5, 12, 14, 177]), (20, [8]), (21, [0, 3, 5, 14, 27]), (22, [0, 3, 5, 14, 27, 28]), (23, [0, 3, 5, 14, 27, 28, 184]), (24, [0, 3, 5, 14, 27, 28]), (25, [0, 3, 5, 14, 27, 28, 29]), (26, [0, 3, 5, 14, 27, 28]), (27, [14, 24, 30]), (28, [8])]
theorem lk6 : lookK kp6 0 = some [0, 2, 3, 5] ∧ lookK kp6 1 = some [0, 2, 3, 5, 44] ∧ lookK kp6 2 = some [8] ∧ lookK kp6 3 = some [0, 2, 3, 5, 9, 10, 11] ∧ lookK kp6 4 = some [0, 2, 3, 5, 9, 10, 11, 12, 13] ∧ lookK kp6 5 = some [0, 2, 3, 5, 9, 10, 11, 12, 13, 14, 15] ∧ lookK kp6 6 = some [0, 2, 3, 5, 9, 10, 11, 12, 13, 14, 15, 16, 17] ∧ lookK kp6 7 = some [0, 2, 3, 5, 9, 10, 11, 12, 14, 96] ∧ lookK kp6 8 = some [8] ∧ lookK kp6 9 = some [0, 2, 3, 5, 9, 10, 11, 12, 14, 107] ∧ lookK kp6 10 = some [8] ∧ lookK kp6 11 = some [0, 2, 3, 5, 9, 10, 11, 12, 14, 109] ∧ lookK kp6 12 = some [0, 2, 3, 5, 9, 10, 11, 12, 14, 18, 19] ∧ lookK kp6 13 = some [0, 2, 3, 5, 10, 11, 12, 14, 18, 19, 20, 21] ∧ lookK kp6 14 = some [0, 2, 3, 5, 10, 11, 12, 14, 144] ∧ lookK kp6 15 = some [8] ∧ lookK kp6 16 = some [0, 3, 5, 10, 11, 12, 14, 22] ∧ lookK kp6 17 = some [0, 3, 5, 10, 11, 12, 14, 22, 23, 24] ∧ lookK kp6 18 = some [0, 3, 5, 10, 11, 12, 14, 23, 24, 26] ∧ lookK kp6 19 = some [0, 3, 5, 12, 14, 177] ∧ lookK kp6 20 = some [8] ∧ lookK kp6 21 = some [0, 3, 5, 14, 27] ∧ lookK kp6 22 = some [0, 3, 5, 14, 27, 28] ∧ lookK kp6 23 = some [0, 3, 5, 14, 27, 28, 184] ∧ lookK kp6 24 = some [0, 3, 5, 14, 27, 28] ∧ lookK kp6 25 = some [0, 3, 5, 14, 27, 28, 29] ∧ lookK kp6 26 = some [0, 3, 5, 14, 27, 28] ∧ lookK kp6 27 = some [14, 24, 30] ∧ lookK kp6 28 = some [8] := ⟨rfl, rfl, rfl, rfl, rfl, rfl, rfl, rfl, rfl, rfl, rfl, rfl, rfl, rfl, rfl, rfl, rfl, rfl, rfl, rfl, rfl, rfl, rfl, rfl, rfl, rfl, rfl, rfl, rfl⟩

def iC (x : Int) : C := .d (.int .i64 x)
theorem flat_ints (t : List Int) : List.map C.d (List.map iD t).flatten = t.map iC := by
  induction t with
  | nil => rfl
  | cons a t ih => simp only [List.map_cons, List.flatten_cons, List.map_append, ih]; rfl
/-- Numbers of a table. -/
def OkT (N : Nat) (o : List Int) : Prop := o.length = N ∧ ∀ x ∈ o, 0 ≤ x ∧ x ≤ MX
theorem ctab_change {l : List Dy} {w : Wn} {o : List Int} (h0 : okWn l w = 0) (h : OkT ((l.length + 1) * 441) o) : ctabE l w o = 14 ∨ ctabE l w o = 0 := by
  unfold ctabE
  rw [if_pos h0, if_pos h.1, if_neg]
  · split
    · exact .inr rfl
    · exact .inl rfl
  · rw [mn_iff (by have := h.1; omega)]
    rintro ⟨j, hj, h2⟩
    have := h.2 _ (List.mem_of_getElem? (gI_lt hj))
    omega
theorem costs_ok {l : List Dy} (hl : OkL l) (q : Int) : OkT ((l.length + 1) * 441) (costsL l q) := by
  refine ⟨costsL_len l q, fun x hx => ?_⟩
  rw [costsL_eq hl] at hx
  obtain ⟨k, hk, rfl⟩ := List.mem_map.1 hx
  exact fill_bd hl q k
theorem set_ok {N : Nat} {o : List Int} (h : OkT N o) (k : Nat) (c : Int) : OkT N (o.set k (max 0 (min MX c))) := by
  refine ⟨by rw [List.length_set]; exact h.1, fun x hx => ?_⟩
  rcases List.mem_or_eq_of_mem_set hx with hx | hx
  · exact h.2 x hx
  · subst hx; unfold MX; omega
theorem wr_u16 (x : Int) : 0 ≤ wr .u16 x ∧ wr .u16 x < 65536 := by
  simp [wr, IntKind.wrap, IntKind.bits, IntKind.signed]
  omega
theorem toDs_iC (o : List Int) : toDs (o.map iC) = some (o.map fun x => D.int .i64 x) := by
  rw [show o.map iC = (o.map fun x => D.int .i64 x).map C.d by rw [List.map_map]; rfl, toDs_d]
theorem chunk_iD (l : List Int) : chunk 1 l.length (l.map (fun x => D.int .i64 x)) = l.map iD := by
  induction l with
  | nil => rfl
  | cons a l ih => simp only [List.length_cons, List.map_cons, chunk]; simp only [List.take_succ_cons, List.take_zero, List.drop_succ_cons, List.drop_zero]; rw [ih]; rfl
theorem vec_low (w : Wn) (n : Nat) (o : List Int) : [AB.cells (wnC w), .vec n 1 (o.map iC)].all (AB.low 2) = true := by
  have e : o.map iC = (o.map fun x => D.int .i64 x).map C.d := by rw [List.map_map]; rfl
  simp only [List.all_cons, List.all_nil, AB.low, e, lowL_d]
  rfl
theorem getS_map (f : V → V) (hf : f (.c .any) = .c .any) : ∀ (sl : List (Nat × V)) (i : Nat), getS (sl.map fun p => (p.1, f p.2)) i = f (getS sl i)
  | [], i => hf.symm
  | (j, v) :: sl, i => by
    simp only [List.map_cons, getS]
    split
    · rfl
    · exact getS_map f hf sl i
theorem iC_get {o : List Int} {k : Nat} (h : k < o.length) : (o.map iC)[k]? = some (.d (.int .i64 (gI o k))) := by rw [List.getElem?_map, gI_lt h]; rfl
theorem iC_set (o : List Int) (k : Nat) (v : Int) : (o.map iC).set k (.d (.int .i64 v)) = (o.set k v).map iC := by rw [List.map_set]; rfl
theorem gP (l : List (Int × Int)) {b : Nat} (h : b < l.length) : ∃ p, l[b]? = some p ∧ p ∈ l := by
  obtain ⟨x, hx⟩ := get_of_lt h
  exact ⟨x, hx, List.mem_of_getElem? hx⟩
set_option maxHeartbeats 8000000 in
theorem provedLaw (l : List Dy) (w : Wn) (by' : List Int) (ch : List (Int × Int)) (hu : U8 by') (hp : P16 ch) : Pure Try.prog 6 [dys l, wnV w, u8s by', chs ch] (B true) := by
  refine pure_wkE (bad := [26, 10023]) (kp := kp6) (X := txv) (nt := 234) (rs := [.tmp 8]) Try.func6 rfl rfl rfl rfl mo (by kernel_rfl) rfl rfl (fun hf => ?_)
  have h1 := fine32 l w
  have hw := works13
  by_cases h0 : okWn l w = 0
  case neg =>
    rw [decide_eq_false h0] at h1
    unfold wnV wnC at h1
    simp (maxSteps := 2000000) only [go_sem, reduceIte, Nat.reduceEqDiff, Nat.reduceAdd, Nat.reduceBEq, lk6, wnV, wnC]
    refine aops_pure' (h1) rfl rfl (by first | exact wk_refls _ | (repeat constructor)) ?_
    simp (maxSteps := 2000000) only [go_sem, reduceIte, Nat.reduceEqDiff, Nat.reduceAdd, Nat.reduceBEq, lk6]
    refine aops_pure' (hw) rfl rfl (by first | exact wk_refls _ | (repeat constructor)) ?_
    simp (maxSteps := 2000000) only [go_sem, reduceIte, Nat.reduceEqDiff, lk6]
  obtain ⟨hl, hv⟩ := (okWn_iff l w).1 h0
  rw [decide_eq_true h0] at h1
  by_cases h2 : 12 < by'.length
  · have h2' : (12 : Int) < by'.length := by omega
    unfold wnV wnC at h1
    simp (maxSteps := 2000000) only [go_sem, reduceIte, Nat.reduceEqDiff, Nat.reduceAdd, Nat.reduceBEq, lk6, wnV, wnC, u8s]
    refine aops_pure' (h1) rfl rfl (by first | exact wk_refls _ | (repeat constructor)) ?_
    simp (maxSteps := 2000000) only [go_sem, reduceIte, Nat.reduceEqDiff, Nat.reduceAdd, Nat.reduceBEq, lk6, h2']
    refine aops_pure' (hw) rfl rfl (by first | exact wk_refls _ | (repeat constructor)) ?_
    simp (maxSteps := 2000000) only [go_sem, reduceIte, Nat.reduceEqDiff, lk6]
  have h2' : ¬ (12 : Int) < by'.length := by omega
  by_cases h3 : 20 < ch.length
  · have h3' : (20 : Int) < ch.length := by omega
    unfold wnV wnC at h1
    simp (maxSteps := 2000000) only [go_sem, reduceIte, Nat.reduceEqDiff, Nat.reduceAdd, Nat.reduceBEq, lk6, wnV, wnC, u8s, chs]
    refine aops_pure' (h1) rfl rfl (by first | exact wk_refls _ | (repeat constructor)) ?_
    simp (maxSteps := 2000000) only [go_sem, reduceIte, Nat.reduceEqDiff, Nat.reduceAdd, Nat.reduceBEq, lk6, h2', h3']
    refine aops_pure' (hw) rfl rfl (by first | exact wk_refls _ | (repeat constructor)) ?_
    simp (maxSteps := 2000000) only [go_sem, reduceIte, Nat.reduceEqDiff, lk6]
  have h3' : ¬ (20 : Int) < ch.length := by omega
  have m1 := cheapest21 l w
  have m2 := table28 l w.f
  have te : tabE l w.f = 0 := by unfold tabE; rw [if_pos ((okShelf_iff l).2 hl), if_pos (by have := hv.f1; have := hv.f8; simp [fastB]; omega)]
  have tl : tabL l w.f = costsL l w.f := by unfold tabL; rw [te, if_pos rfl]
  obtain ⟨co1, co2⟩ := ctab_own hl hv
  have m3 := checktable30 l w (costsL l w.f)
  have m4 := checktable31 l w (costsL l w.f)
  rw [te, tl] at m2
  rw [co1, co2] at m3 m4
  have m5 := check16 l w (chR l w)
  have m6 := check17 l w (chR l w)
  have r33 := recipe33 l by' hl.n8 hu
  have m7 := check16 l w (recL l.length by')
  have m8 := check17 l w (recL l.length by')
  have hx : chkE l w (recL l.length by') = 0 → chE l w = 0 ∧ chC l w ≤ chkN l w (recL l.length by') := fun h => by
    have hf := (chkE_iff.1 h).2
    have hc : costB l w ≠ MX := by
      have := fits_le hl hv hf
      have := fits_lt hl hf
      omega
    rcases chE_val h0 with h2 | h2
    · refine ⟨h2.2.1, ?_⟩
      unfold chkN
      rw [h2.2.2.1, if_pos h]
      exact fits_le hl hv hf
    · exact absurd h2.1 hc
  have hot := costs_ok hl w.f
  have hmf := fun o (ho : OkT ((l.length + 1) * 441) o) => checktable30 l w o
  have hce := fun o (ho : OkT ((l.length + 1) * 441) o) => ctab_change h0 ho
  have hcl := fun o => ctab_le (l := l) (w := w) (t := o)
  generalize recL l.length by' = y at *
  generalize costsL l w.f = T at *
  have ha : (T.all fun x => (iD x).length == 1) = true := List.all_eq_true.2 fun _ _ => rfl
  have hfitT : (decide ((T.length + T.length / 4 + 256) * 8 ≤ 281474976710656) && decide (T.length ≤ 140737488355328)) = true := by have := hot.1; have := hl.n8; simp; omega
  have hTl := hot.1
  have h8 := hl.n8
  simp only [wnV, wnC, dys, ints] at h1 m1 m2 m3 m4 m5 m6 m7 m8 r33
  simp only [u8s] at r33
  rcases chE_val h0 with ⟨c1, e1, e2, e3⟩ | ⟨c1, e1, e2, e3⟩
  · have e4 : chkE l w (bestR l w) = 0 := chkE_iff.2 ⟨⟨hl, hv⟩, bestR_fits hl hv c1⟩
    have e5 : chkN l w (bestR l w) = costB l w := by unfold chkN; rw [e4, if_pos rfl, (bestR_law hl hv c1).2.2.2]
    rw [e3, e4, e5] at m5 m6
    rw [e1, e2, e3] at m1
    rw [e1, e2] at hx
    by_cases hy : chkE l w y = 0
    · have hlt : ¬ chkN l w y < costB l w := Int.not_lt.2 (hx hy).2
      rw [hy] at m7 m8
      simp (maxSteps := 2000000) only [go_sem, reduceIte, Nat.reduceEqDiff, Nat.reduceAdd, Nat.reduceBEq, lk6, wnV, wnC, dys, u8s, chs, ints]
      refine aops_pure' (h1) rfl rfl (by first | exact wk_refls _ | (repeat constructor)) ?_
      simp (maxSteps := 2000000) only [go_sem, reduceIte, Nat.reduceEqDiff, Nat.reduceAdd, Nat.reduceBEq, lk6, h2', h3']
      refine aops_pure' (m1) rfl rfl (by first | exact wk_refls _ | (repeat constructor)) ?_
      simp (maxSteps := 2000000) only [go_sem, reduceIte, Nat.reduceEqDiff, Nat.reduceAdd, Nat.reduceBEq, lk6]
      refine aops_pure' (m2) rfl rfl (by first | exact wk_refls _ | (repeat constructor)) ?_
      simp (maxSteps := 2000000) only [go_sem, reduceIte, Nat.reduceEqDiff, Nat.reduceAdd, lk6]
      refine aops_pure' (m3) rfl rfl (by first | exact wk_refls _ | (repeat constructor)) ?_
      simp (maxSteps := 2000000) only [go_sem, reduceIte, Nat.reduceEqDiff, Nat.reduceAdd, lk6]
      refine aops_pure' (m4) rfl rfl (by first | exact wk_refls _ | (repeat constructor)) ?_
      simp (maxSteps := 2000000) only [go_sem, reduceIte, Nat.reduceEqDiff, Nat.reduceAdd, Nat.reduceBEq, Int.reduceEq, lk6]
      refine aops_pure' (m5) rfl rfl (by first | exact wk_refls _ | (repeat constructor)) ?_
      simp (maxSteps := 2000000) only [go_sem, reduceIte, Nat.reduceEqDiff, Nat.reduceAdd, lk6]
      refine aops_pure' (m6) rfl rfl (by first | exact wk_refls _ | (repeat constructor)) ?_
      simp (maxSteps := 2000000) only [go_sem, reduceIte, Nat.reduceEqDiff, Nat.reduceAdd, Nat.reduceBEq, lk6]
      refine aops_pure' (r33) rfl rfl (by first | exact wk_refls _ | (repeat constructor)) ?_
      simp (maxSteps := 2000000) only [go_sem, reduceIte, Nat.reduceEqDiff, Nat.reduceAdd, lk6]
      refine aops_pure' (m7) rfl rfl (by first | exact wk_refls _ | (repeat constructor)) ?_
      simp (maxSteps := 2000000) only [go_sem, reduceIte, Nat.reduceEqDiff, Nat.reduceAdd, lk6]
      refine aops_pure' (m8) rfl rfl (by first | exact wk_refls _ | (repeat constructor)) ?_
      simp (maxSteps := 2000000) only [go_sem, reduceIte, Nat.reduceEqDiff, Nat.reduceAdd, Nat.reduceLT, Nat.reduceLeDiff, Nat.reduceBEq, Nat.reduceMul, lk6, hlt]
      simp (maxSteps := 2000000) only [go_sem, reduceIte, lk6, flat_ints, List.length_map, ha]
      refine ⟨hfitT, ?_⟩
      refine goE_loop (bad := [26, 10023]) (kp := kp6) (fun k : Nat × List Int => { slots := [(0, dys l), (3, chs ch), (5, .c (.ptr 0 0)), (14, I (costB l w)), (27, .c (.vs 1 k.2.length)), (28, I k.1)], heap := [.cells (wnC w), .vec k.2.length 1 (k.2.map iC)], marks := [] }) (fun k => k.1 ≤ ch.length ∧ OkT ((l.length + 1) * 441) k.2) (fun k => ch.length - k.1) (0, T) mo (by kernel_rfl) ?_ ⟨Nat.zero_le _, hot⟩ ?_
      · refine ent_weaken [] rfl rfl (Nat.zero_le _) (vec_low _ _ _) rfl ?_
        simp (maxSteps := 2000000) only [go_sem, reduceIte, Nat.reduceEqDiff, Nat.reduceAdd, Nat.reduceLT, lk6, dys, chs, wnC]
        all_goals first | exact .refl _ | exact ⟨.refl _, .refl _⟩ | exact ⟨.refl _, .refl _, .refl _⟩ | exact ⟨.refl _, _, rfl⟩ | exact ⟨_, rfl⟩ | exact ⟨.refl _, [], by simp⟩ | exact ⟨[], by simp⟩
      rintro ⟨k, o⟩ ⟨hk, ho⟩
      simp only at hk ho
      simp (maxSteps := 2000000) only [go_sem, reduceIte, Nat.reduceEqDiff, Nat.reduceAdd, Nat.reduceBEq, lk6, dys, chs, wnC]
      by_cases hlt : k < ch.length
      · have hlt' : (k : Int) < ch.length := by omega
        obtain ⟨p, hpk, hpm⟩ := gP ch hlt
        obtain ⟨hpa, hpb⟩ := hp p hpm
        have hol := ho.1
        have hu16 := wr_u16 p.1
        have m1 : ch.length - (k + 1) < ch.length - k := by omega
        have hpos : 0 < o.length := by omega
        obtain ⟨at', hat⟩ : ∃ n : Nat, n = (wr .u16 p.1).toNat % o.length := ⟨_, rfl⟩
        have hatl : at' < o.length := by rw [hat]; exact Nat.mod_lt _ hpos
        have hatl' : (at' : Int) < o.length := by omega
        have z0 : ¬ (o.length : Int) = 0 := by omega
        have tmE : Int.tmod (wr .u16 p.1) (o.length : Int) = (at' : Int) := by
          rw [hat, show wr .u16 p.1 = (((wr .u16 p.1).toNat : Nat) : Int) by omega]; rfl
        have ov := ho.2 _ (List.mem_of_getElem? (gI_lt hatl))
        have g0' : (Option.map iC o[at']?).getD C.any = .d (.int .i64 (gI o at')) := by rw [gI_lt hatl]; rfl
        have so' : ∀ v, (o.map iC).set at' (.d (.int .i64 v)) = (o.set at' v).map iC := iC_set o at'
        have c1 : decide (at' + 1 ≤ o.length) = true := decide_eq_true hatl
        have hset := fun c => set_ok ho at' c
        have hsl : ∀ c, (o.set at' c).length = o.length := fun c => List.length_set
        have hcol : o.length ≤ 10000 := by omega
        have w6 : wr .i64 (at' : Int) = at' := wr_in (by omega)
        have wu : wr .i64 (wr .u16 p.1) = wr .u16 p.1 := wr_in (by omega)
        have wp2 : wr .i64 p.2 = p.2 := wr_in (by omega)
        have wad : wr .i64 (gI o at' + p.2) = gI o at' + p.2 := wr_in (by unfold MX at ov; omega)
        have w7 : wr .i64 ((k : Int) + 1) = ((k + 1 : Nat) : Int) := wr_succ (n := 21) (by omega) (by decide)
        simp (maxSteps := 2000000) only [go_sem, lk6, hlt']
        refine stop_mk _ Ent.refl ?_
        simp (maxSteps := 2000000) only [go_sem, reduceIte, Nat.reduceEqDiff, Nat.reduceAdd, Nat.reduceLT, Nat.reduceLeDiff, Nat.reduceBEq, Int.reduceLT, Int.reduceLE, Int.reduceToNat, lk6, nn, hlt', hpk, pD, wu, z0, tmE, w6, hatl', Int.toNat_natCast, Nat.mul_one, c1, g0', wp2, wad, maxL1, minL1, so', w7]
        refine ⟨pairsOk_ord (by kernel_rfl), (k + 1, o.set at' (max 0 (min 1099511627776 (gI o at' + p.2)))), ⟨hlt, hset _⟩, m1, ?_⟩
        refine ent_weaken [] (by simp only [hsl, List.map_set, List.append_nil, wnC]) rfl (Nat.zero_le _) (vec_low _ _ _) rfl ?_
        simp (maxSteps := 2000000) only [go_sem, reduceIte, Nat.reduceEqDiff, Nat.reduceAdd, Nat.reduceLT, lk6, dys, chs, wnC, hsl]
        all_goals first | exact .refl _ | exact ⟨.refl _, .refl _⟩ | exact ⟨.refl _, .refl _, .refl _⟩ | exact ⟨.refl _, _, rfl⟩ | exact ⟨_, rfl⟩ | exact ⟨.refl _, [], by simp⟩ | exact ⟨[], by simp⟩
      · have hlt' : ¬ (k : Int) < ch.length := by omega
        simp (maxSteps := 2000000) only [go_sem, lk6, hlt']
        refine stop_mk { slots := [(0, dys l), (3, chs ch), (5, .c (.ptr 0 0)), (14, I (costB l w)), (27, ints o), (28, I k), (184, B false)], heap := [.cells (wnC w), .gone], marks := [] } ?_ ?_
        · refine ent_fzvec 1 (n := o.length) (sz := 1) (cs := o.map iC) (ds := o.map fun x => .int .i64 x) rfl (toDs_iC o) (by decide) (by unfold lim; have := ho.1; omega) rfl rfl (fun i => .inl (?_))
          refine Eq.trans (congrArg (getS · i) ?_) (getS_map (fzNV 1 o.length (D.sl (chunk 1 o.length (o.map fun x => D.int .i64 x)))) rfl _ i)
          simp only [List.map_cons, List.map_nil, fzNV, fzN, and_self, if_true, chunk_iD]
          rfl
        have hm := hmf o ho
        simp only [wnV, wnC, dys, ints] at hm
        have hcc := hce o ho
        have hcl' := hcl o
        simp (maxSteps := 2000000) only [go_sem, reduceIte, Nat.reduceEqDiff, Nat.reduceAdd, Nat.reduceBEq, lk6, dys, ints, wnC]
        refine aops_pure' (hm) rfl rfl (by first | exact wk_refls _ | (repeat constructor)) ?_
        rcases hcc with hcc | hcc
        · simp (maxSteps := 2000000) only [go_sem, reduceIte, Nat.reduceEqDiff, lk6, hcc]
          refine aops_pure' (hw) rfl rfl (by first | exact wk_refls _ | (repeat constructor)) ?_
          simp (maxSteps := 2000000) only [go_sem, reduceIte, Nat.reduceEqDiff, lk6]
        · have hle := hcl' hcc
          simp (maxSteps := 2000000) only [go_sem, reduceIte, Nat.reduceEqDiff, Int.reduceEq, lk6, hcc, hle]
          refine aops_pure' (hw) rfl rfl (by first | exact wk_refls _ | (repeat constructor)) ?_
          simp (maxSteps := 2000000) only [go_sem, reduceIte, Nat.reduceEqDiff, lk6]
    · skip
      simp (maxSteps := 2000000) only [go_sem, reduceIte, Nat.reduceEqDiff, Nat.reduceAdd, Nat.reduceBEq, lk6, wnV, wnC, dys, u8s, chs, ints]
      refine aops_pure' (h1) rfl rfl (by first | exact wk_refls _ | (repeat constructor)) ?_
      simp (maxSteps := 2000000) only [go_sem, reduceIte, Nat.reduceEqDiff, Nat.reduceAdd, Nat.reduceBEq, lk6, h2', h3']
      refine aops_pure' (m1) rfl rfl (by first | exact wk_refls _ | (repeat constructor)) ?_
      simp (maxSteps := 2000000) only [go_sem, reduceIte, Nat.reduceEqDiff, Nat.reduceAdd, Nat.reduceBEq, lk6]
      refine aops_pure' (m2) rfl rfl (by first | exact wk_refls _ | (repeat constructor)) ?_
      simp (maxSteps := 2000000) only [go_sem, reduceIte, Nat.reduceEqDiff, Nat.reduceAdd, lk6]
      refine aops_pure' (m3) rfl rfl (by first | exact wk_refls _ | (repeat constructor)) ?_
      simp (maxSteps := 2000000) only [go_sem, reduceIte, Nat.reduceEqDiff, Nat.reduceAdd, lk6]
      refine aops_pure' (m4) rfl rfl (by first | exact wk_refls _ | (repeat constructor)) ?_
      simp (maxSteps := 2000000) only [go_sem, reduceIte, Nat.reduceEqDiff, Nat.reduceAdd, Nat.reduceBEq, Int.reduceEq, lk6]
      refine aops_pure' (m5) rfl rfl (by first | exact wk_refls _ | (repeat constructor)) ?_
      simp (maxSteps := 2000000) only [go_sem, reduceIte, Nat.reduceEqDiff, Nat.reduceAdd, lk6]
      refine aops_pure' (m6) rfl rfl (by first | exact wk_refls _ | (repeat constructor)) ?_
      simp (maxSteps := 2000000) only [go_sem, reduceIte, Nat.reduceEqDiff, Nat.reduceAdd, Nat.reduceBEq, lk6]
      refine aops_pure' (r33) rfl rfl (by first | exact wk_refls _ | (repeat constructor)) ?_
      simp (maxSteps := 2000000) only [go_sem, reduceIte, Nat.reduceEqDiff, Nat.reduceAdd, lk6]
      refine aops_pure' (m7) rfl rfl (by first | exact wk_refls _ | (repeat constructor)) ?_
      simp (maxSteps := 2000000) only [go_sem, reduceIte, Nat.reduceEqDiff, Nat.reduceAdd, lk6]
      refine aops_pure' (m8) rfl rfl (by first | exact wk_refls _ | (repeat constructor)) ?_
      simp (maxSteps := 2000000) only [go_sem, reduceIte, Nat.reduceEqDiff, Nat.reduceAdd, Nat.reduceLT, Nat.reduceLeDiff, Nat.reduceBEq, Nat.reduceMul, lk6, hy]
      simp (maxSteps := 2000000) only [go_sem, reduceIte, lk6, flat_ints, List.length_map, ha]
      refine ⟨hfitT, ?_⟩
      refine goE_loop (bad := [26, 10023]) (kp := kp6) (fun k : Nat × List Int => { slots := [(0, dys l), (3, chs ch), (5, .c (.ptr 0 0)), (14, I (costB l w)), (27, .c (.vs 1 k.2.length)), (28, I k.1)], heap := [.cells (wnC w), .vec k.2.length 1 (k.2.map iC)], marks := [] }) (fun k => k.1 ≤ ch.length ∧ OkT ((l.length + 1) * 441) k.2) (fun k => ch.length - k.1) (0, T) mo (by kernel_rfl) ?_ ⟨Nat.zero_le _, hot⟩ ?_
      · refine ent_weaken [] rfl rfl (Nat.zero_le _) (vec_low _ _ _) rfl ?_
        simp (maxSteps := 2000000) only [go_sem, reduceIte, Nat.reduceEqDiff, Nat.reduceAdd, Nat.reduceLT, lk6, dys, chs, wnC]
        all_goals first | exact .refl _ | exact ⟨.refl _, .refl _⟩ | exact ⟨.refl _, .refl _, .refl _⟩ | exact ⟨.refl _, _, rfl⟩ | exact ⟨_, rfl⟩ | exact ⟨.refl _, [], by simp⟩ | exact ⟨[], by simp⟩
      rintro ⟨k, o⟩ ⟨hk, ho⟩
      simp only at hk ho
      simp (maxSteps := 2000000) only [go_sem, reduceIte, Nat.reduceEqDiff, Nat.reduceAdd, Nat.reduceBEq, lk6, dys, chs, wnC]
      by_cases hlt : k < ch.length
      · have hlt' : (k : Int) < ch.length := by omega
        obtain ⟨p, hpk, hpm⟩ := gP ch hlt
        obtain ⟨hpa, hpb⟩ := hp p hpm
        have hol := ho.1
        have hu16 := wr_u16 p.1
        have m1 : ch.length - (k + 1) < ch.length - k := by omega
        have hpos : 0 < o.length := by omega
        obtain ⟨at', hat⟩ : ∃ n : Nat, n = (wr .u16 p.1).toNat % o.length := ⟨_, rfl⟩
        have hatl : at' < o.length := by rw [hat]; exact Nat.mod_lt _ hpos
        have hatl' : (at' : Int) < o.length := by omega
        have z0 : ¬ (o.length : Int) = 0 := by omega
        have tmE : Int.tmod (wr .u16 p.1) (o.length : Int) = (at' : Int) := by
          rw [hat, show wr .u16 p.1 = (((wr .u16 p.1).toNat : Nat) : Int) by omega]; rfl
        have ov := ho.2 _ (List.mem_of_getElem? (gI_lt hatl))
        have g0' : (Option.map iC o[at']?).getD C.any = .d (.int .i64 (gI o at')) := by rw [gI_lt hatl]; rfl
        have so' : ∀ v, (o.map iC).set at' (.d (.int .i64 v)) = (o.set at' v).map iC := iC_set o at'
        have c1 : decide (at' + 1 ≤ o.length) = true := decide_eq_true hatl
        have hset := fun c => set_ok ho at' c
        have hsl : ∀ c, (o.set at' c).length = o.length := fun c => List.length_set
        have hcol : o.length ≤ 10000 := by omega
        have w6 : wr .i64 (at' : Int) = at' := wr_in (by omega)
        have wu : wr .i64 (wr .u16 p.1) = wr .u16 p.1 := wr_in (by omega)
        have wp2 : wr .i64 p.2 = p.2 := wr_in (by omega)
        have wad : wr .i64 (gI o at' + p.2) = gI o at' + p.2 := wr_in (by unfold MX at ov; omega)
        have w7 : wr .i64 ((k : Int) + 1) = ((k + 1 : Nat) : Int) := wr_succ (n := 21) (by omega) (by decide)
        simp (maxSteps := 2000000) only [go_sem, lk6, hlt']
        refine stop_mk _ Ent.refl ?_
        simp (maxSteps := 2000000) only [go_sem, reduceIte, Nat.reduceEqDiff, Nat.reduceAdd, Nat.reduceLT, Nat.reduceLeDiff, Nat.reduceBEq, Int.reduceLT, Int.reduceLE, Int.reduceToNat, lk6, nn, hlt', hpk, pD, wu, z0, tmE, w6, hatl', Int.toNat_natCast, Nat.mul_one, c1, g0', wp2, wad, maxL1, minL1, so', w7]
        refine ⟨pairsOk_ord (by kernel_rfl), (k + 1, o.set at' (max 0 (min 1099511627776 (gI o at' + p.2)))), ⟨hlt, hset _⟩, m1, ?_⟩
        refine ent_weaken [] (by simp only [hsl, List.map_set, List.append_nil, wnC]) rfl (Nat.zero_le _) (vec_low _ _ _) rfl ?_
        simp (maxSteps := 2000000) only [go_sem, reduceIte, Nat.reduceEqDiff, Nat.reduceAdd, Nat.reduceLT, lk6, dys, chs, wnC, hsl]
        all_goals first | exact .refl _ | exact ⟨.refl _, .refl _⟩ | exact ⟨.refl _, .refl _, .refl _⟩ | exact ⟨.refl _, _, rfl⟩ | exact ⟨_, rfl⟩ | exact ⟨.refl _, [], by simp⟩ | exact ⟨[], by simp⟩
      · have hlt' : ¬ (k : Int) < ch.length := by omega
        simp (maxSteps := 2000000) only [go_sem, lk6, hlt']
        refine stop_mk { slots := [(0, dys l), (3, chs ch), (5, .c (.ptr 0 0)), (14, I (costB l w)), (27, ints o), (28, I k), (184, B false)], heap := [.cells (wnC w), .gone], marks := [] } ?_ ?_
        · refine ent_fzvec 1 (n := o.length) (sz := 1) (cs := o.map iC) (ds := o.map fun x => .int .i64 x) rfl (toDs_iC o) (by decide) (by unfold lim; have := ho.1; omega) rfl rfl (fun i => .inl (?_))
          refine Eq.trans (congrArg (getS · i) ?_) (getS_map (fzNV 1 o.length (D.sl (chunk 1 o.length (o.map fun x => D.int .i64 x)))) rfl _ i)
          simp only [List.map_cons, List.map_nil, fzNV, fzN, and_self, if_true, chunk_iD]
          rfl
        have hm := hmf o ho
        simp only [wnV, wnC, dys, ints] at hm
        have hcc := hce o ho
        have hcl' := hcl o
        simp (maxSteps := 2000000) only [go_sem, reduceIte, Nat.reduceEqDiff, Nat.reduceAdd, Nat.reduceBEq, lk6, dys, ints, wnC]
        refine aops_pure' (hm) rfl rfl (by first | exact wk_refls _ | (repeat constructor)) ?_
        rcases hcc with hcc | hcc
        · simp (maxSteps := 2000000) only [go_sem, reduceIte, Nat.reduceEqDiff, lk6, hcc]
          refine aops_pure' (hw) rfl rfl (by first | exact wk_refls _ | (repeat constructor)) ?_
          simp (maxSteps := 2000000) only [go_sem, reduceIte, Nat.reduceEqDiff, lk6]
        · have hle := hcl' hcc
          simp (maxSteps := 2000000) only [go_sem, reduceIte, Nat.reduceEqDiff, Int.reduceEq, lk6, hcc, hle]
          refine aops_pure' (hw) rfl rfl (by first | exact wk_refls _ | (repeat constructor)) ?_
          simp (maxSteps := 2000000) only [go_sem, reduceIte, Nat.reduceEqDiff, lk6]
  · have hy : ¬ chkE l w y = 0 := fun h => by have := (hx h).1; rw [e1] at this; cases this
    have c1' : decide (costB l w = 1099511627776) = true := decide_eq_true c1
    rw [e1, e2, e3] at m1
    simp (maxSteps := 2000000) only [go_sem, reduceIte, Nat.reduceEqDiff, Nat.reduceAdd, Nat.reduceBEq, lk6, wnV, wnC, dys, u8s, chs, ints]
    refine aops_pure' (h1) rfl rfl (by first | exact wk_refls _ | (repeat constructor)) ?_
    simp (maxSteps := 2000000) only [go_sem, reduceIte, Nat.reduceEqDiff, Nat.reduceAdd, Nat.reduceBEq, lk6, h2', h3']
    refine aops_pure' (m1) rfl rfl (by first | exact wk_refls _ | (repeat constructor)) ?_
    simp (maxSteps := 2000000) only [go_sem, reduceIte, Nat.reduceEqDiff, Nat.reduceAdd, Nat.reduceBEq, lk6]
    refine aops_pure' (m2) rfl rfl (by first | exact wk_refls _ | (repeat constructor)) ?_
    simp (maxSteps := 2000000) only [go_sem, reduceIte, Nat.reduceEqDiff, Nat.reduceAdd, lk6]
    refine aops_pure' (m3) rfl rfl (by first | exact wk_refls _ | (repeat constructor)) ?_
    simp (maxSteps := 2000000) only [go_sem, reduceIte, Nat.reduceEqDiff, Nat.reduceAdd, lk6]
    refine aops_pure' (m4) rfl rfl (by first | exact wk_refls _ | (repeat constructor)) ?_
    simp (maxSteps := 2000000) only [go_sem, reduceIte, Nat.reduceEqDiff, Nat.reduceAdd, Nat.reduceBEq, Int.reduceEq, lk6, c1']
    refine aops_pure' (r33) rfl rfl (by first | exact wk_refls _ | (repeat constructor)) ?_
    simp (maxSteps := 2000000) only [go_sem, reduceIte, Nat.reduceEqDiff, Nat.reduceAdd, lk6]
    refine aops_pure' (m7) rfl rfl (by first | exact wk_refls _ | (repeat constructor)) ?_
    simp (maxSteps := 2000000) only [go_sem, reduceIte, Nat.reduceEqDiff, Nat.reduceAdd, lk6]
    refine aops_pure' (m8) rfl rfl (by first | exact wk_refls _ | (repeat constructor)) ?_
    simp (maxSteps := 2000000) only [go_sem, reduceIte, Nat.reduceEqDiff, Nat.reduceAdd, Nat.reduceLT, Nat.reduceLeDiff, Nat.reduceBEq, Nat.reduceMul, lk6, hy]
    simp (maxSteps := 2000000) only [go_sem, reduceIte, lk6, flat_ints, List.length_map, ha]
    refine ⟨hfitT, ?_⟩
    refine goE_loop (bad := [26, 10023]) (kp := kp6) (fun k : Nat × List Int => { slots := [(0, dys l), (3, chs ch), (5, .c (.ptr 0 0)), (14, I (costB l w)), (27, .c (.vs 1 k.2.length)), (28, I k.1)], heap := [.cells (wnC w), .vec k.2.length 1 (k.2.map iC)], marks := [] }) (fun k => k.1 ≤ ch.length ∧ OkT ((l.length + 1) * 441) k.2) (fun k => ch.length - k.1) (0, T) mo (by kernel_rfl) ?_ ⟨Nat.zero_le _, hot⟩ ?_
    · refine ent_weaken [] rfl rfl (Nat.zero_le _) (vec_low _ _ _) rfl ?_
      simp (maxSteps := 2000000) only [go_sem, reduceIte, Nat.reduceEqDiff, Nat.reduceAdd, Nat.reduceLT, lk6, dys, chs, wnC]
      all_goals first | exact .refl _ | exact ⟨.refl _, .refl _⟩ | exact ⟨.refl _, .refl _, .refl _⟩ | exact ⟨.refl _, _, rfl⟩ | exact ⟨_, rfl⟩ | exact ⟨.refl _, [], by simp⟩ | exact ⟨[], by simp⟩
    rintro ⟨k, o⟩ ⟨hk, ho⟩
    simp only at hk ho
    simp (maxSteps := 2000000) only [go_sem, reduceIte, Nat.reduceEqDiff, Nat.reduceAdd, Nat.reduceBEq, lk6, dys, chs, wnC]
    by_cases hlt : k < ch.length
    · have hlt' : (k : Int) < ch.length := by omega
      obtain ⟨p, hpk, hpm⟩ := gP ch hlt
      obtain ⟨hpa, hpb⟩ := hp p hpm
      have hol := ho.1
      have hu16 := wr_u16 p.1
      have m1 : ch.length - (k + 1) < ch.length - k := by omega
      have hpos : 0 < o.length := by omega
      obtain ⟨at', hat⟩ : ∃ n : Nat, n = (wr .u16 p.1).toNat % o.length := ⟨_, rfl⟩
      have hatl : at' < o.length := by rw [hat]; exact Nat.mod_lt _ hpos
      have hatl' : (at' : Int) < o.length := by omega
      have z0 : ¬ (o.length : Int) = 0 := by omega
      have tmE : Int.tmod (wr .u16 p.1) (o.length : Int) = (at' : Int) := by
        rw [hat, show wr .u16 p.1 = (((wr .u16 p.1).toNat : Nat) : Int) by omega]; rfl
      have ov := ho.2 _ (List.mem_of_getElem? (gI_lt hatl))
      have g0' : (Option.map iC o[at']?).getD C.any = .d (.int .i64 (gI o at')) := by rw [gI_lt hatl]; rfl
      have so' : ∀ v, (o.map iC).set at' (.d (.int .i64 v)) = (o.set at' v).map iC := iC_set o at'
      have c1 : decide (at' + 1 ≤ o.length) = true := decide_eq_true hatl
      have hset := fun c => set_ok ho at' c
      have hsl : ∀ c, (o.set at' c).length = o.length := fun c => List.length_set
      have hcol : o.length ≤ 10000 := by omega
      have w6 : wr .i64 (at' : Int) = at' := wr_in (by omega)
      have wu : wr .i64 (wr .u16 p.1) = wr .u16 p.1 := wr_in (by omega)
      have wp2 : wr .i64 p.2 = p.2 := wr_in (by omega)
      have wad : wr .i64 (gI o at' + p.2) = gI o at' + p.2 := wr_in (by unfold MX at ov; omega)
      have w7 : wr .i64 ((k : Int) + 1) = ((k + 1 : Nat) : Int) := wr_succ (n := 21) (by omega) (by decide)
      simp (maxSteps := 2000000) only [go_sem, lk6, hlt']
      refine stop_mk _ Ent.refl ?_
      simp (maxSteps := 2000000) only [go_sem, reduceIte, Nat.reduceEqDiff, Nat.reduceAdd, Nat.reduceLT, Nat.reduceLeDiff, Nat.reduceBEq, Int.reduceLT, Int.reduceLE, Int.reduceToNat, lk6, nn, hlt', hpk, pD, wu, z0, tmE, w6, hatl', Int.toNat_natCast, Nat.mul_one, c1, g0', wp2, wad, maxL1, minL1, so', w7]
      refine ⟨pairsOk_ord (by kernel_rfl), (k + 1, o.set at' (max 0 (min 1099511627776 (gI o at' + p.2)))), ⟨hlt, hset _⟩, m1, ?_⟩
      refine ent_weaken [] (by simp only [hsl, List.map_set, List.append_nil, wnC]) rfl (Nat.zero_le _) (vec_low _ _ _) rfl ?_
      simp (maxSteps := 2000000) only [go_sem, reduceIte, Nat.reduceEqDiff, Nat.reduceAdd, Nat.reduceLT, lk6, dys, chs, wnC, hsl]
      all_goals first | exact .refl _ | exact ⟨.refl _, .refl _⟩ | exact ⟨.refl _, .refl _, .refl _⟩ | exact ⟨.refl _, _, rfl⟩ | exact ⟨_, rfl⟩ | exact ⟨.refl _, [], by simp⟩ | exact ⟨[], by simp⟩
    · have hlt' : ¬ (k : Int) < ch.length := by omega
      simp (maxSteps := 2000000) only [go_sem, lk6, hlt']
      refine stop_mk { slots := [(0, dys l), (3, chs ch), (5, .c (.ptr 0 0)), (14, I (costB l w)), (27, ints o), (28, I k), (184, B false)], heap := [.cells (wnC w), .gone], marks := [] } ?_ ?_
      · refine ent_fzvec 1 (n := o.length) (sz := 1) (cs := o.map iC) (ds := o.map fun x => .int .i64 x) rfl (toDs_iC o) (by decide) (by unfold lim; have := ho.1; omega) rfl rfl (fun i => .inl (?_))
        refine Eq.trans (congrArg (getS · i) ?_) (getS_map (fzNV 1 o.length (D.sl (chunk 1 o.length (o.map fun x => D.int .i64 x)))) rfl _ i)
        simp only [List.map_cons, List.map_nil, fzNV, fzN, and_self, if_true, chunk_iD]
        rfl
      have hm := hmf o ho
      simp only [wnV, wnC, dys, ints] at hm
      have hcc := hce o ho
      have hcl' := hcl o
      simp (maxSteps := 2000000) only [go_sem, reduceIte, Nat.reduceEqDiff, Nat.reduceAdd, Nat.reduceBEq, lk6, dys, ints, wnC]
      refine aops_pure' (hm) rfl rfl (by first | exact wk_refls _ | (repeat constructor)) ?_
      rcases hcc with hcc | hcc
      · simp (maxSteps := 2000000) only [go_sem, reduceIte, Nat.reduceEqDiff, lk6, hcc]
        refine aops_pure' (hw) rfl rfl (by first | exact wk_refls _ | (repeat constructor)) ?_
        simp (maxSteps := 2000000) only [go_sem, reduceIte, Nat.reduceEqDiff, lk6]
      · have hle := hcl' hcc
        simp (maxSteps := 2000000) only [go_sem, reduceIte, Nat.reduceEqDiff, Int.reduceEq, lk6, hcc, hle]
        refine aops_pure' (hw) rfl rfl (by first | exact wk_refls _ | (repeat constructor)) ?_
        simp (maxSteps := 2000000) only [go_sem, reduceIte, Nat.reduceEqDiff, lk6]
end Go.Proofs.Ytkbnmanfoejoiaa
