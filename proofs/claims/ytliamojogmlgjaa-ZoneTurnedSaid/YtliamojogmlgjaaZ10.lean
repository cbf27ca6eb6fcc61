/- Zones: the program's table, and the gaps of its angles. -/
import Derived.Test.YtliamojogmlgjaaZ6
import Derived.Test.YtliamojogmlgjaaAbsX
import Derived.Test.YtliamojogmlgjaaAbsB
set_option linter.unusedSimpArgs false
set_option linter.unusedVariables false
set_option maxRecDepth 100000
namespace Go.Proofs.Ytliamojogmlgjaa
open Go Go.Abs Go.Proofs
def kp81 : List (Nat × List Nat) := [(0, [1]), (1, [2])]
theorem lk81 : lookK kp81 0 = some [1] ∧ lookK kp81 1 = some [2] := ⟨rfl, rfl⟩
def kp83 : List (Nat × List Nat) := [(0, [0, 1, 10, 11, 12]), (1, [0, 1, 10, 11, 12, 13]), (2, [0, 1, 3, 4, 10, 11, 12]), (3, [0, 1, 3, 4, 5, 10, 11, 12]), (4, [0, 1, 3, 5, 10, 11, 12, 21]), (5, [0, 1, 3, 5, 10, 11, 12]), (6, [0, 1, 10, 11, 12, 63]), (7, [0, 1, 10, 11, 12])]
theorem lk83 : lookK kp83 0 = some [0, 1, 10, 11, 12] ∧ lookK kp83 1 = some [0, 1, 10, 11, 12, 13] ∧ lookK kp83 2 = some [0, 1, 3, 4, 10, 11, 12] ∧ lookK kp83 3 = some [0, 1, 3, 4, 5, 10, 11, 12] ∧ lookK kp83 4 = some [0, 1, 3, 5, 10, 11, 12, 21] ∧ lookK kp83 5 = some [0, 1, 3, 5, 10, 11, 12] ∧ lookK kp83 6 = some [0, 1, 10, 11, 12, 63] ∧ lookK kp83 7 = some [0, 1, 10, 11, 12] := ⟨rfl, rfl, rfl, rfl, rfl, rfl, rfl, rfl⟩

def tabC (l : La) (a d : Nat → Int) : List C := laC l ++ (numsC 22 a ++ numsC 182 d)
theorem tab_len (l : La) (a d : Nat → Int) : (tabC l a d).length = 208 := by simp [tabC, laC, numsC_len]
theorem tab_an (l : La) (a d : Nat → Int) : (tabC l a d)[0]? = some (.d (.sl (l.an.map iD))) := rfl
theorem tab_li (l : La) (a d : Nat → Int) : (tabC l a d)[1]? = some (.d (.sl (l.li.map rgD))) := rfl
theorem tab_fa (l : La) (a d : Nat → Int) : (tabC l a d)[2]? = some (.d (.sl (l.fa.map bD))) := rfl
theorem tab_we (l : La) (a d : Nat → Int) : (tabC l a d)[3]? = some (.d (.sl (l.we.map iD))) := rfl
theorem tab_a {l : La} {a d : Nat → Int} {k : Nat} (h : k < 22) : (tabC l a d)[4 + k]? = some (.d (.int .i64 (a k))) := by
  rw [tabC, List.getElem?_append_right (by simp [laC])]
  rw [show 4 + k - (laC l).length = k by simp [laC], List.getElem?_append_left (by rw [numsC_len]; exact h), numsC_get h]
theorem tab_d {l : La} {a d : Nat → Int} {k : Nat} (h : k < 182) : (tabC l a d)[26 + k]? = some (.d (.int .i64 (d k))) := by
  rw [tabC, List.getElem?_append_right (by simp [laC]; omega), List.getElem?_append_right (by simp [laC, numsC_len]; omega)]
  rw [show 26 + k - (laC l).length - (numsC 22 a).length = k by simp [laC, numsC_len]; omega, numsC_get h]
theorem tab_seta {l : La} {a d : Nat → Int} {k : Nat} {v : Int} (h : k < 22) : (tabC l a d).set (4 + k) (.d (.int .i64 v)) = tabC l (upd a k v) d := by
  rw [tabC, List.set_append_right _ _ (by simp [laC]), show 4 + k - (laC l).length = k by simp [laC], List.set_append_left _ _ (by rw [numsC_len]; exact h), numsC_set]; rfl
theorem tab_setd {l : La} {a d : Nat → Int} {k : Nat} {v : Int} (h : k < 182) : (tabC l a d).set (26 + k) (.d (.int .i64 v)) = tabC l a (upd d k v) := by
  rw [tabC, List.set_append_right _ _ (by simp [laC]; omega), List.set_append_right _ _ (by simp [laC, numsC_len]; omega), show 26 + k - (laC l).length - (numsC 22 a).length = k by simp [laC, numsC_len]; omega, numsC_set]; rfl
theorem tab_low (m : Nat) (l : La) (a d : Nat → Int) : C.lowL m (tabC l a d) = true := by
  have e : tabC l a d = (([D.sl (l.an.map iD), D.sl (l.li.map rgD), D.sl (l.fa.map bD), D.sl (l.we.map iD)] ++ (numsD 22 a ++ numsD 182 d)).map C.d) := by
    simp [tabC, laC, numsC_d]
  rw [e, lowL_d]
/-- The way from an angle to the next one. -/
def gapC (l : La) (i : Nat) : List C := if gB l.fa i then [.d (.int .i64 i), .d (.int .i64 ((i + 1 : Nat) : Int))] else [.d (.int .i64 ((i + 1 : Nat) : Int)), .d (.int .i64 i)]
def gdC (l : La) (i : Nat) : List C := [.d (.int .i64 (P l i)), .d (.int .i64 (P l (i + 1)))]
theorem gapC_low (m : Nat) (l : La) (i : Nat) : C.lowL m (gapC l i) = true := by unfold gapC; split <;> rfl
theorem cat_set {α : Type} (H : List α) (x y : α) : (H ++ [x]).set H.length y = H ++ [y] := by rw [List.set_append_right _ _ (Nat.le_refl _)]; simp
theorem cat_at {α : Type} (H : List α) (x : α) : (H ++ [x])[H.length]? = some x := by simp
theorem gaps81 (H : List AB) (id : Nat) (hid : id < H.length) : ACall Try.prog 81 [.c (.ptr id 0)] H (one (.c (.fn (.func 83) [.ptr H.length 0])) (H ++ [.cells [.ptr id 0]])) := by
  refine acall_fitE (bad := []) (kp := kp81) (X := tx) (nt := 4) (rs := [.tmp 2]) Try.func81 rfl rfl rfl rfl mo (by kernel_rfl) (fun hf => ?_)
  simp (maxSteps := 2000000) only [go_sem, reduceIte, Nat.reduceEqDiff, Nat.reduceAdd, List.replicate_succ, lk81, lk83]
  exact ⟨rfl, rfl⟩
set_option maxHeartbeats 4000000 in
theorem gaps83 (yid b1 bid : Nat) (l : La) (ok : OkLa l) (fa' fd : Nat → Nat → Int) (Hs : Nat → List AB)
    (hlow : ∀ k, k ≤ l.fa.length → (Hs k).all (AB.low (Hs k).length) = true ∧ (Hs k).length = (Hs 0).length) (h1 : yid < (Hs 0).length)
    (hb1 : ∀ k, k ≤ l.fa.length → (Hs k)[b1]? = some (.cells [.ptr bid 0])) (hb : ∀ k, k ≤ l.fa.length → (Hs k)[bid]? = some (.cells (tabC l (fa' k) (fd k))))
    (hy : ∀ i, i < l.fa.length → YCs Try.prog yid (Hs i ++ [.cells (gapC l i)]) [.agg (gapC l i), .agg (gdC l i)] (one (B true) (Hs (i + 1) ++ [.cells (gapC l i)]))) :
    ACall Try.prog 83 [.c (.yd yid), .c (.ptr b1 0)] (Hs 0) (fun _ H' => H' = Hs l.fa.length) := by
  have l1 : b1 < (Hs 0).length := (List.getElem?_eq_some_iff.1 (hb1 0 (Nat.zero_le _))).1
  have l2 : bid < (Hs 0).length := (List.getElem?_eq_some_iff.1 (hb 0 (Nat.zero_le _))).1
  have hb10 := hb1 0 (Nat.zero_le _)
  have hb0 := hb 0 (Nat.zero_le _)
  have hfa := ok.fa
  have m11 := ok.m11
  refine acall_fitE (bad := [50006]) (kp := kp83) (X := tx) (nt := 65) (rs := []) Try.func83 rfl rfl rfl rfl mo (by kernel_rfl) (fun hf => ?_)
  simp (maxSteps := 2000000) only [go_sem, reduceIte, Nat.reduceEqDiff, Nat.reduceAdd, Nat.reduceLeDiff, Nat.reduceBEq, List.replicate_succ, lk81, lk83, hb10, hb0, tab_len, tab_fa]
  refine goE_loop (bad := [50006]) (kp := kp83) (fun i : Nat => { slots := [(0, .c (.yd yid)), (1, .c (.ptr b1 0)), (10, bools l.fa), (11, I l.fa.length), (12, I i)], heap := Hs i, marks := [] }) (fun i => i ≤ l.fa.length) (fun i => l.fa.length - i) 0 mo (by kernel_rfl) ?_ (Nat.zero_le _) ?_
  · obtain ⟨q1, q2⟩ := hlow 0 (by omega)
    refine ent_weaken [] (by simp) rfl (Nat.le_refl _) q1 rfl ?_
    simp (maxSteps := 2000000) only [go_sem, reduceIte, Nat.reduceEqDiff, List.replicate_succ, lk81, lk83, bools, h1, l1]
    all_goals first | exact .refl _ | exact ⟨.refl _, .refl _⟩ | exact ⟨.refl _, .refl _, .refl _⟩ | exact ⟨.refl _, _, rfl⟩ | exact ⟨_, rfl⟩ | exact ⟨.refl _, [], by simp⟩ | exact ⟨[], by simp⟩
  rintro i hi
  simp (maxSteps := 2000000) only [go_sem, reduceIte, Nat.reduceEqDiff, Nat.reduceAdd, Nat.reduceBEq, List.replicate_succ, lk81, lk83, bools]
  by_cases hlt : i < l.fa.length
  · have hlt' : (i : Int) < l.fa.length := by omega
    have g1 := gB_lt hlt
    obtain ⟨q1, q2⟩ := hlow i hi
    obtain ⟨r1, r2⟩ := hlow (i + 1) hlt
    have hb1i := hb1 i hi
    have hbi := hb i hi
    have m1 : l.fa.length - (i + 1) < l.fa.length - i := by omega
    have hyi := hy i hlt
    have hap1 : ∀ x : AB, (Hs i ++ [x])[b1]? = some (.cells [.ptr bid 0]) := fun x => by rw [List.getElem?_append_left (by omega)]; exact hb1i
    have hap2 : ∀ x : AB, (Hs i ++ [x])[bid]? = some (.cells (tabC l (fa' i) (fd i))) := fun x => by rw [List.getElem?_append_left (by omega)]; exact hbi
    have ia : (i : Int) < l.an.length := by omega
    have ia1 : ((i + 1 : Nat) : Int) < l.an.length := by omega
    have p0 : (0 : Int) < l.an.length := by omega
    have a0 := gI_lt (l := l.an) (i := 0) (by omega)
    have a1 := gI_lt (l := l.an) (i := i) (by omega)
    have a2 := gI_lt (l := l.an) (i := i + 1) (by omega)
    have b0 := ok.a0 0 (by omega)
    have b1' := ok.a0 i (by omega)
    have b2 := ok.a0 (i + 1) (by omega)
    have d1 := ok.p (i := i) (by omega)
    have d2 := ok.p (i := i + 1) (by omega)
    have x1 : yid < (Hs (i + 1)).length := by omega
    have x2 : b1 < (Hs (i + 1)).length := by omega
    have x3 : (Hs 0).length ≤ (Hs (i + 1)).length := by omega
    have h1000 : i < 1000 := by omega
    have hnl : l.fa.length ≤ 140737488355328 := by omega
    have w1 : wr .i64 (gI l.an i - gI l.an 0) = (P l i : Int) := by rw [wr_in (by omega), d1]
    have w2 : wr .i64 (gI l.an (i + 1) - gI l.an 0) = (P l (i + 1) : Int) := by rw [wr_in (by clear w1; omega), d2]
    have w7 := wr_succ hlt hnl
    unfold gdC at hyi
    cases hf' : gB l.fa i with
    | true =>
      have eg : gapC l i = [.d (.int .i64 i), .d (.int .i64 ((i + 1 : Nat) : Int))] := by unfold gapC; rw [hf']; rfl
      rw [hf'] at g1
      rw [eg] at hyi
      simp (maxSteps := 2000000) only [go_sem, reduceIte, Nat.reduceEqDiff, Nat.reduceAdd, Nat.reduceLeDiff, Nat.reduceBEq, Nat.reduceMul, Int.reduceLE, Int.reduceToNat, List.replicate_succ, lk81, lk83, hlt', nn, g1, bD, w7, cat_at, cat_set, hap1, hap2, tab_len, tab_an, ia, ia1, p0, a0, a1, a2, iD, w1, w2]
      trace_state
      refine dops_ycs hyi rfl rfl (by kernel_rfl) (by kernel_rfl) ?_
      simp (maxSteps := 2000000) only [go_sem, reduceIte, Nat.reduceEqDiff, Nat.reduceAdd, Nat.reduceBEq, List.replicate_succ, lk81, lk83, w7]
      refine ⟨i + 1, hlt, m1, ?_⟩
      refine ent_weaken [.cells (gapC l i)] (by rw [eg]) rfl x3 r1 rfl ?_
      simp (maxSteps := 2000000) only [go_sem, reduceIte, Nat.reduceEqDiff, List.replicate_succ, lk81, lk83, bools, x1, x2]
      all_goals first | exact .refl _ | exact ⟨.refl _, .refl _⟩ | exact ⟨.refl _, .refl _, .refl _⟩ | exact ⟨.refl _, _, rfl⟩ | exact ⟨_, rfl⟩ | exact ⟨.refl _, [], by simp⟩ | exact ⟨[], by simp⟩
    | false =>
      have eg : gapC l i = [.d (.int .i64 ((i + 1 : Nat) : Int)), .d (.int .i64 i)] := by unfold gapC; rw [hf']; rfl
      rw [hf'] at g1
      rw [eg] at hyi
      simp (maxSteps := 2000000) only [go_sem, reduceIte, Nat.reduceEqDiff, Nat.reduceAdd, Nat.reduceLeDiff, Nat.reduceBEq, Nat.reduceMul, Int.reduceLE, Int.reduceToNat, List.replicate_succ, lk81, lk83, hlt', nn, g1, bD, w7, cat_at, cat_set, hap1, hap2, tab_len, tab_an, ia, ia1, p0, a0, a1, a2, iD, w1, w2]
      refine dops_ycs hyi rfl rfl (by kernel_rfl) (by kernel_rfl) ?_
      simp (maxSteps := 2000000) only [go_sem, reduceIte, Nat.reduceEqDiff, Nat.reduceAdd, Nat.reduceBEq, List.replicate_succ, lk81, lk83, w7]
      refine ⟨i + 1, hlt, m1, ?_⟩
      refine ent_weaken [.cells (gapC l i)] (by rw [eg]) rfl x3 r1 rfl ?_
      simp (maxSteps := 2000000) only [go_sem, reduceIte, Nat.reduceEqDiff, List.replicate_succ, lk81, lk83, bools, x1, x2]
      all_goals first | exact .refl _ | exact ⟨.refl _, .refl _⟩ | exact ⟨.refl _, .refl _, .refl _⟩ | exact ⟨.refl _, _, rfl⟩ | exact ⟨_, rfl⟩ | exact ⟨.refl _, [], by simp⟩ | exact ⟨[], by simp⟩
  · have hlt' : ¬ (i : Int) < l.fa.length := by omega
    have e : i = l.fa.length := by omega
    subst e
    simp (maxSteps := 2000000) only [go_sem, reduceIte, List.replicate_succ, lk81, lk83, hlt']
end Go.Proofs.Ytliamojogmlgjaa
