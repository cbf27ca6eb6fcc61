/- Metamers: sums of chips. -/
import Derived.Test.YtjkpfojkkfopmaaM21
import Derived.Test.YtjkpfojkkfopmaaM19
set_option linter.unusedSimpArgs false
set_option linter.unusedVariables false
set_option maxRecDepth 100000
namespace Go.Proofs.Ytjkpfojkkfopmaa
open Go Go.Abs Go.Proofs
def kp10 : List (Nat × List Nat) := [(0, [1, 2, 3, 4, 5, 6]), (1, [1, 2, 3, 4, 5, 6, 46]), (2, [12]), (3, [1, 2, 3, 4, 5, 6, 13, 14]), (4, [1, 2, 3, 4, 5, 6, 13, 14, 15, 16]), (5, [1, 2, 3, 4, 5, 6, 13, 14, 15, 16, 17, 18]), (6, [1, 2, 3, 4, 5, 6, 13, 15, 17, 75]), (7, [12]), (8, [1, 2, 3, 4, 6, 13, 15, 17, 19]), (9, [1, 2, 3, 4, 6, 13, 15, 17, 19, 20, 21]), (10, [1, 2, 3, 4, 6, 13, 15, 17, 19, 20, 21, 22, 23]), (11, [1, 2, 3, 4, 6, 13, 15, 17, 20, 21, 22, 23, 24, 25]), (12, [1, 2, 3, 4, 6, 13, 15, 17, 20, 21, 22, 23, 24, 25, 26]), (13, [1, 2, 3, 4, 6, 13, 15, 17, 24, 26, 131]), (14, [12]), (15, [1, 2, 3, 4, 6, 13, 15, 17, 135]), (16, [12]), (17, [1, 2, 6, 13, 15, 17, 28, 29]), (18, [1, 2, 6, 13, 17, 28, 156]), (19, [12]), (20, [12])]
theorem lk10 : lookK kp10 0 = some [1, 2, 3, 4, 5, 6] ∧ lookK kp10 1 = some [1, 2, 3, 4, 5, 6, 46] ∧ lookK kp10 2 = some [12] ∧ lookK kp10 3 = some [1, 2, 3, 4, 5, 6, 13, 14] ∧ lookK kp10 4 = some [1, 2, 3, 4, 5, 6, 13, 14, 15, 16] ∧ lookK kp10 5 = some [1, 2, 3, 4, 5, 6, 13, 14, 15, 16, 17, 18] ∧ lookK kp10 6 = some [1, 2, 3, 4, 5, 6, 13, 15, 17, 75] ∧ lookK kp10 7 = some [12] ∧ lookK kp10 8 = some [1, 2, 3, 4, 6, 13, 15, 17, 19] ∧ lookK kp10 9 = some [1, 2, 3, 4, 6, 13, 15, 17, 19, 20, 21] ∧ lookK kp10 10 = some [1, 2, 3, 4, 6, 13, 15, 17, 19, 20, 21, 22, 23] ∧ lookK kp10 11 = some [1, 2, 3, 4, 6, 13, 15, 17, 20, 21, 22, 23, 24, 25] ∧ lookK kp10 12 = some [1, 2, 3, 4, 6, 13, 15, 17, 20, 21, 22, 23, 24, 25, 26] ∧ lookK kp10 13 = some [1, 2, 3, 4, 6, 13, 15, 17, 24, 26, 131] ∧ lookK kp10 14 = some [12] ∧ lookK kp10 15 = some [1, 2, 3, 4, 6, 13, 15, 17, 135] ∧ lookK kp10 16 = some [12] ∧ lookK kp10 17 = some [1, 2, 6, 13, 15, 17, 28, 29] ∧ lookK kp10 18 = some [1, 2, 6, 13, 17, 28, 156] ∧ lookK kp10 19 = some [12] ∧ lookK kp10 20 = some [12] := ⟨rfl, rfl, rfl, rfl, rfl, rfl, rfl, rfl, rfl, rfl, rfl, rfl, rfl, rfl, rfl, rfl, rfl, rfl, rfl, rfl, rfl⟩

theorem sure_char {c : Cs} {l : List Int} (hc : OkC c) (hn : l.length = c.lamp.length) : partB c l = false ↔ ∀ x, OkT c x → ∀ k, k < 3 → seeF (pX x) l k = 0 := by
  constructor
  · intro h x hx k hk; exact sure_none hc hn h hx k hk
  · intro h
    cases hp : partB c l with
    | false => rfl
    | true =>
      obtain ⟨k, hk, h0⟩ := part_parts hc hn hp
      exact absurd (h _ (partT_ok hc _) k hk) h0
theorem bothL_get {a b : List Int} (h : a.length = b.length) {k : Nat} (hk : k < a.length) : gI (bothL a b) k = gI a k + gI b k := by
  refine gI_get ?_
  rw [bothL, sumsL, List.getElem?_map, List.getElem?_range (by rw [← h]; omega)]; rfl
theorem bothL_len {a b : List Int} (h : a.length = b.length) : (bothL a b).length = a.length := by rw [bothL, sumsL_len, ← h]; omega
theorem see_both {p : Nat → Nat → Int} {a b : List Int} (h : a.length = b.length) (k : Nat) : seeF p (bothL a b) k = seeF p a k + seeF p b k := by
  unfold seeF seeS
  rw [bothL_len h, ← h, sumF_add]
  exact sumF_congr fun j hj => by rw [bothL_get h hj, Int.add_mul]
theorem both_chip {c : Cs} {a x : List Int} (ha : okChip c a = 0) (hx : okChip c x = 0) (h : bothOk a x = true) : okChip c (bothL a x) = 0 := by
  obtain ⟨a1, a2⟩ := (okChip_iff c a).1 ha
  obtain ⟨x1, x2⟩ := (okChip_iff c x).1 hx
  have hl : a.length = x.length := by omega
  simp only [bothOk, Bool.and_eq_true, List.all_eq_true, decide_eq_true_eq] at h
  refine (okChip_iff c _).2 ⟨(bothL_len hl).trans a1, fun v hv => ⟨?_, h.2 v hv⟩⟩
  obtain ⟨k, hk⟩ := List.getElem?_of_mem hv
  have hkl : k < a.length := by rw [← bothL_len hl]; exact (List.getElem?_eq_some_iff.1 hk).1
  have := bothL_get hl hkl
  rw [gI_get hk] at this
  have h1 := a2 _ (List.mem_of_getElem? (gI_lt hkl))
  have h2 := x2 _ (List.mem_of_getElem? (gI_lt (l := x) (b := k) (by omega)))
  omega
theorem less_both {a b x y : List Int} (h1 : a.length = x.length) (h2 : b.length = y.length) (h3 : a.length = b.length) (p : Nat → Nat → Int) (k : Nat) : seeF p (lessL (bothL a x) (bothL b y)) k = seeF p (lessL a b) k + seeF p (lessL x y) k := by
  rw [see_less (by rw [bothL_len h1, bothL_len h2, h3]), see_both h1, see_both h2, see_less (by omega), see_less (by omega)]
  omega
theorem less_cancel {a b x : List Int} (h1 : a.length = x.length) (h2 : b.length = x.length) : lessL (bothL a x) (bothL b x) = lessL a b := by
  unfold lessL
  rw [bothL_len h1]
  refine List.map_congr_left fun k hk => ?_
  have hk := List.mem_range.1 hk
  rw [bothL_get h1 hk, bothL_get h2 (by omega)]
  omega
theorem sureP_ok {c : Cs} {a b : List Int} (hc : OkC c) (ha : okChip c a = 0) (hb : okChip c b = 0) : sureP c a b = if partB c (lessL a b) then 19 else 0 := by
  have h := (okChips_iff c a b).2 ⟨hc, ha, hb⟩
  simp only [sureP, if_pos h]
theorem chip_mild {c : Cs} {a : List Int} (hc : OkC c) (ha : okChip c a = 0) : Mild a := by
  obtain ⟨a1, a2⟩ := (okChip_iff c a).1 ha
  have := hc.n8
  exact ⟨by omega, fun x hx => by have := a2 x hx; omega⟩
theorem see_mild {c : Cs} {x : Tr} {a : List Int} (hc : OkC c) (hx : OkT c x) (ha : okChip c a = 0) : Mild (seeL (pX x) a) := by
  obtain ⟨hs, hn⟩ := chip_spec hc ha
  have hp := OkT.okX hc hx (Nat.le_of_eq hn)
  have key : ∀ k, k < 3 → -90000000 ≤ seeF (pX x) a k ∧ seeF (pX x) a k ≤ 90000000 := fun k hk => by
    have := seeS_bound hs hp hk (Nat.le_refl _)
    show -90000000 ≤ seeS _ _ _ _ ∧ seeS _ _ _ _ ≤ 90000000
    omega
  have h0 := key 0 (by decide)
  have h1 := key 1 (by decide)
  have h2 := key 2 (by decide)
  refine ⟨by simp [seeL], fun v hv => ?_⟩
  simp only [seeL, List.mem_cons, List.not_mem_nil, or_false] at hv
  rcases hv with rfl | rfl | rfl <;> assumption
theorem sum_see {p : Nat → Nat → Int} {a x : List Int} (h : a.length = x.length) : bothL (seeL p a) (seeL p x) = seeL p (bothL a x) := by
  show [_, _, _] = [_, _, _]
  rw [see_both h, see_both h, see_both h]; rfl
theorem fine_all {c : Cs} {a b : List Int} (h : fineB c a b = true) : OkC c ∧ okChip c a = 0 ∧ okChip c b = 0 := by
  simp only [fineB, Bool.and_eq_true, decide_eq_true_eq] at h
  exact (okChips_iff c a b).1 h.2.2.2
set_option maxHeartbeats 8000000 in
theorem addedLaw (c : Cs) (a b x y by' : List Int) (hby : B16 by') : Pure Try.prog 10 [csV c, ints a, ints b, ints x, ints y, u16s by'] (B true) := by
  refine pure_wkE (bad := []) (kp := kp10) (X := tx) (nt := 174) (rs := [.tmp 12]) Try.func10 rfl rfl rfl rfl mo (by kernel_rfl) rfl rfl (fun hf => ?_)
  simp (config := { maxSteps := 2000000 }) only [go_sem, reduceIte, Nat.reduceEqDiff, Nat.reduceAdd, Nat.reduceLT, Nat.reduceLeDiff, Nat.reduceBEq, Nat.reduceMul, Nat.reduceSub, Nat.reduceDiv, Int.reduceNeg, Int.reduceLT, Int.reduceLE, Int.reduceEq, Int.reduceToNat, lk10, csV, csC, ints, u16s]
  refine aops_pure' (fine42 c a b) rfl rfl (by first | exact wk_refls _ | (repeat constructor)) ?_
  cases hf : fineB c a b with
  | false =>
    simp (config := { maxSteps := 2000000 }) only [go_sem, reduceIte, Nat.reduceEqDiff, Nat.reduceAdd, Nat.reduceLT, Nat.reduceLeDiff, Nat.reduceBEq, Nat.reduceMul, Nat.reduceSub, Nat.reduceDiv, Int.reduceNeg, Int.reduceLT, Int.reduceLE, Int.reduceEq, Int.reduceToNat, lk10]
    refine aops_pure' (works15) rfl rfl (by first | exact wk_refls _ | (repeat constructor)) ?_
    simp (config := { maxSteps := 2000000 }) only [go_sem, reduceIte, Nat.reduceEqDiff, Nat.reduceAdd, Nat.reduceLT, Nat.reduceLeDiff, Nat.reduceBEq, Nat.reduceMul, Nat.reduceSub, Nat.reduceDiv, Int.reduceNeg, Int.reduceLT, Int.reduceLE, Int.reduceEq, Int.reduceToNat, lk10]
  | true =>
  simp (config := { maxSteps := 2000000 }) only [go_sem, reduceIte, Nat.reduceEqDiff, Nat.reduceAdd, Nat.reduceLT, Nat.reduceLeDiff, Nat.reduceBEq, Nat.reduceMul, Nat.reduceSub, Nat.reduceDiv, Int.reduceNeg, Int.reduceLT, Int.reduceLE, Int.reduceEq, Int.reduceToNat, lk10, csC]
  refine aops_pure' (fine42 c x y) rfl rfl (by first | exact wk_refls _ | (repeat constructor)) ?_
  cases hf2 : fineB c x y with
  | false =>
    simp (config := { maxSteps := 2000000 }) only [go_sem, reduceIte, Nat.reduceEqDiff, Nat.reduceAdd, Nat.reduceLT, Nat.reduceLeDiff, Nat.reduceBEq, Nat.reduceMul, Nat.reduceSub, Nat.reduceDiv, Int.reduceNeg, Int.reduceLT, Int.reduceLE, Int.reduceEq, Int.reduceToNat, lk10]
    refine aops_pure' (works15) rfl rfl (by first | exact wk_refls _ | (repeat constructor)) ?_
    simp (config := { maxSteps := 2000000 }) only [go_sem, reduceIte, Nat.reduceEqDiff, Nat.reduceAdd, Nat.reduceLT, Nat.reduceLeDiff, Nat.reduceBEq, Nat.reduceMul, Nat.reduceSub, Nat.reduceDiv, Int.reduceNeg, Int.reduceLT, Int.reduceLE, Int.reduceEq, Int.reduceToNat, lk10]
  | true =>
  simp (config := { maxSteps := 2000000 }) only [go_sem, reduceIte, Nat.reduceEqDiff, Nat.reduceAdd, Nat.reduceLT, Nat.reduceLeDiff, Nat.reduceBEq, Nat.reduceMul, Nat.reduceSub, Nat.reduceDiv, Int.reduceNeg, Int.reduceLT, Int.reduceLE, Int.reduceEq, Int.reduceToNat, lk10]
  by_cases h1 : (40 : Int) < by'.length
  · simp (config := { maxSteps := 2000000 }) only [go_sem, reduceIte, Nat.reduceEqDiff, Nat.reduceAdd, Nat.reduceLT, Nat.reduceLeDiff, Nat.reduceBEq, Nat.reduceMul, Nat.reduceSub, Nat.reduceDiv, Int.reduceNeg, Int.reduceLT, Int.reduceLE, Int.reduceEq, Int.reduceToNat, lk10, h1]
    refine aops_pure' (works15) rfl rfl (by first | exact wk_refls _ | (repeat constructor)) ?_
    simp (config := { maxSteps := 2000000 }) only [go_sem, reduceIte, Nat.reduceEqDiff, Nat.reduceAdd, Nat.reduceLT, Nat.reduceLeDiff, Nat.reduceBEq, Nat.reduceMul, Nat.reduceSub, Nat.reduceDiv, Int.reduceNeg, Int.reduceLT, Int.reduceLE, Int.reduceEq, Int.reduceToNat, lk10]
  obtain ⟨hc, ha, hb⟩ := fine_all hf
  obtain ⟨_, hx, hy⟩ := fine_all hf2
  obtain ⟨la, _⟩ := (okChip_iff c a).1 ha
  obtain ⟨lb, _⟩ := (okChip_iff c b).1 hb
  obtain ⟨lx, _⟩ := (okChip_iff c x).1 hx
  obtain ⟨ly, _⟩ := (okChip_iff c y).1 hy
  have e1 : a.length = x.length := by omega
  have e2 : b.length = y.length := by omega
  have e3 : b.length = x.length := by omega
  have b1 := both45 a x (chip_mild hc ha) (chip_mild hc hx)
  have b2 := both45 b y (chip_mild hc hb) (chip_mild hc hy)
  have b3 := both45 b x (chip_mild hc hb) (chip_mild hc hx)
  simp (config := { maxSteps := 2000000 }) only [go_sem, reduceIte, Nat.reduceEqDiff, Nat.reduceAdd, Nat.reduceLT, Nat.reduceLeDiff, Nat.reduceBEq, Nat.reduceMul, Nat.reduceSub, Nat.reduceDiv, Int.reduceNeg, Int.reduceLT, Int.reduceLE, Int.reduceEq, Int.reduceToNat, lk10, h1]
  refine aops_pure' (b1) rfl rfl (by first | exact wk_refls _ | (repeat constructor)) ?_
  simp (config := { maxSteps := 2000000 }) only [go_sem, reduceIte, Nat.reduceEqDiff, Nat.reduceAdd, Nat.reduceLT, Nat.reduceLeDiff, Nat.reduceBEq, Nat.reduceMul, Nat.reduceSub, Nat.reduceDiv, Int.reduceNeg, Int.reduceLT, Int.reduceLE, Int.reduceEq, Int.reduceToNat, lk10]
  refine aops_pure' (b2) rfl rfl (by first | exact wk_refls _ | (repeat constructor)) ?_
  simp (config := { maxSteps := 2000000 }) only [go_sem, reduceIte, Nat.reduceEqDiff, Nat.reduceAdd, Nat.reduceLT, Nat.reduceLeDiff, Nat.reduceBEq, Nat.reduceMul, Nat.reduceSub, Nat.reduceDiv, Int.reduceNeg, Int.reduceLT, Int.reduceLE, Int.reduceEq, Int.reduceToNat, lk10]
  refine aops_pure' (b3) rfl rfl (by first | exact wk_refls _ | (repeat constructor)) ?_
  cases o1 : bothOk a x with
  | false =>
    simp (config := { maxSteps := 2000000 }) only [go_sem, reduceIte, Nat.reduceEqDiff, Nat.reduceAdd, Nat.reduceLT, Nat.reduceLeDiff, Nat.reduceBEq, Nat.reduceMul, Nat.reduceSub, Nat.reduceDiv, Int.reduceNeg, Int.reduceLT, Int.reduceLE, Int.reduceEq, Int.reduceToNat, lk10]
    refine aops_pure' (works15) rfl rfl (by first | exact wk_refls _ | (repeat constructor)) ?_
    simp (config := { maxSteps := 2000000 }) only [go_sem, reduceIte, Nat.reduceEqDiff, Nat.reduceAdd, Nat.reduceLT, Nat.reduceLeDiff, Nat.reduceBEq, Nat.reduceMul, Nat.reduceSub, Nat.reduceDiv, Int.reduceNeg, Int.reduceLT, Int.reduceLE, Int.reduceEq, Int.reduceToNat, lk10]
  | true =>
  cases o2 : bothOk b y with
  | false =>
    simp (config := { maxSteps := 2000000 }) only [go_sem, reduceIte, Nat.reduceEqDiff, Nat.reduceAdd, Nat.reduceLT, Nat.reduceLeDiff, Nat.reduceBEq, Nat.reduceMul, Nat.reduceSub, Nat.reduceDiv, Int.reduceNeg, Int.reduceLT, Int.reduceLE, Int.reduceEq, Int.reduceToNat, lk10]
    refine aops_pure' (works15) rfl rfl (by first | exact wk_refls _ | (repeat constructor)) ?_
    simp (config := { maxSteps := 2000000 }) only [go_sem, reduceIte, Nat.reduceEqDiff, Nat.reduceAdd, Nat.reduceLT, Nat.reduceLeDiff, Nat.reduceBEq, Nat.reduceMul, Nat.reduceSub, Nat.reduceDiv, Int.reduceNeg, Int.reduceLT, Int.reduceLE, Int.reduceEq, Int.reduceToNat, lk10]
  | true =>
  cases o3 : bothOk b x with
  | false =>
    simp (config := { maxSteps := 2000000 }) only [go_sem, reduceIte, Nat.reduceEqDiff, Nat.reduceAdd, Nat.reduceLT, Nat.reduceLeDiff, Nat.reduceBEq, Nat.reduceMul, Nat.reduceSub, Nat.reduceDiv, Int.reduceNeg, Int.reduceLT, Int.reduceLE, Int.reduceEq, Int.reduceToNat, lk10]
    refine aops_pure' (works15) rfl rfl (by first | exact wk_refls _ | (repeat constructor)) ?_
    simp (config := { maxSteps := 2000000 }) only [go_sem, reduceIte, Nat.reduceEqDiff, Nat.reduceAdd, Nat.reduceLT, Nat.reduceLeDiff, Nat.reduceBEq, Nat.reduceMul, Nat.reduceSub, Nat.reduceDiv, Int.reduceNeg, Int.reduceLT, Int.reduceLE, Int.reduceEq, Int.reduceToNat, lk10]
  | true =>
  have hp := both_chip ha hx o1
  have hq := both_chip hb hy o2
  have hr := both_chip hb hx o3
  have hT := trueT_ok hc by'
  have c1 : chip1 c a = 0 := (chip1_iff c a).2 ⟨hc, ha⟩
  have c2 : chip1 c x = 0 := (chip1_iff c x).2 ⟨hc, hx⟩
  have c3 : chip1 c (bothL a x) = 0 := (chip1_iff c _).2 ⟨hc, hp⟩
  have n1 := numbers16 c (trueT c by') a
  have n2 := numbers16 c (trueT c by') x
  have n3 := numbers16 c (trueT c by') (bothL a x)
  rw [numV_ok c1 ((okTr_iff c _).2 hT)] at n1
  rw [numV_ok c2 ((okTr_iff c _).2 hT)] at n2
  rw [numV_ok c3 ((okTr_iff c _).2 hT), ← sum_see e1] at n3
  have l1 : (seeL (pX (trueT c by')) a).length = 3 := rfl
  have l2 : (seeL (pX (trueT c by')) x).length = 3 := rfl
  have l3 : (bothL (seeL (pX (trueT c by')) a) (seeL (pX (trueT c by')) x)).length = 3 := rfl
  have b4 := both45 (seeL (pX (trueT c by')) a) (seeL (pX (trueT c by')) x) (see_mild hc hT ha) (see_mild hc hT hx)
  have ht43 := true43 c by' hc hby
  have s1 := surely27 c a b
  have s2 := surely27 c x y
  have s3 := surely27 c (bothL a x) (bothL b y)
  have s4 := surely27 c (bothL a x) (bothL b x)
  have s5 := surely27 c b a
  rw [sureP_ok hc ha hb] at s1
  rw [sureP_ok hc hx hy] at s2
  rw [sureP_ok hc hp hq] at s3
  rw [sureP_ok hc hp hr, less_cancel e1 e3] at s4
  rw [sureP_ok hc hb ha] at s5
  have k1 : partB c (lessL b a) = partB c (lessL a b) := by
    rw [Bool.eq_iff_iff, ← Bool.not_eq_false, ← Bool.not_eq_false, sure_char hc (by rw [lessL_len, lb]), sure_char hc (by rw [lessL_len, la])]
    refine not_congr ⟨fun h t ht k hk => ?_, fun h t ht k hk => ?_⟩
    · have := h t ht k hk
      rw [see_less (by omega)] at this ⊢
      omega
    · have := h t ht k hk
      rw [see_less (by omega)] at this ⊢
      omega
  have k2 : partB c (lessL a b) = false → partB c (lessL x y) = false → partB c (lessL (bothL a x) (bothL b y)) = false := fun h1 h2 => by
    rw [sure_char hc (by rw [lessL_len, la])] at h1
    rw [sure_char hc (by rw [lessL_len, lx])] at h2
    rw [sure_char hc (by rw [lessL_len, bothL_len e1, la])]
    intro t ht k hk
    rw [less_both e1 e2 (by omega), h1 t ht k hk, h2 t ht k hk]; rfl
  rw [k1] at s5
  simp (config := { maxSteps := 2000000 }) only [go_sem, reduceIte, Nat.reduceEqDiff, Nat.reduceAdd, Nat.reduceLT, Nat.reduceLeDiff, Nat.reduceBEq, Nat.reduceMul, Nat.reduceSub, Nat.reduceDiv, Int.reduceNeg, Int.reduceLT, Int.reduceLE, Int.reduceEq, Int.reduceToNat, lk10, csC]
  refine aops_pure' (ht43) rfl rfl (by first | exact wk_refls _ | (repeat constructor)) ?_
  simp (config := { maxSteps := 2000000 }) only [go_sem, reduceIte, Nat.reduceEqDiff, Nat.reduceAdd, Nat.reduceLT, Nat.reduceLeDiff, Nat.reduceBEq, Nat.reduceMul, Nat.reduceSub, Nat.reduceDiv, Int.reduceNeg, Int.reduceLT, Int.reduceLE, Int.reduceEq, Int.reduceToNat, lk10, csC, trV, trC]
  refine aops_pure' (n1) rfl rfl (by first | exact wk_refls _ | (repeat constructor)) ?_
  simp (config := { maxSteps := 2000000 }) only [go_sem, reduceIte, Nat.reduceEqDiff, Nat.reduceAdd, Nat.reduceLT, Nat.reduceLeDiff, Nat.reduceBEq, Nat.reduceMul, Nat.reduceSub, Nat.reduceDiv, Int.reduceNeg, Int.reduceLT, Int.reduceLE, Int.reduceEq, Int.reduceToNat, lk10, csC, trC]
  refine aops_pure' (n2) rfl rfl (by first | exact wk_refls _ | (repeat constructor)) ?_
  simp (config := { maxSteps := 2000000 }) only [go_sem, reduceIte, Nat.reduceEqDiff, Nat.reduceAdd, Nat.reduceLT, Nat.reduceLeDiff, Nat.reduceBEq, Nat.reduceMul, Nat.reduceSub, Nat.reduceDiv, Int.reduceNeg, Int.reduceLT, Int.reduceLE, Int.reduceEq, Int.reduceToNat, lk10, csC, trC]
  refine aops_pure' (n3) rfl rfl (by first | exact wk_refls _ | (repeat constructor)) ?_
  simp (config := { maxSteps := 2000000 }) only [go_sem, reduceIte, Nat.reduceEqDiff, Nat.reduceAdd, Nat.reduceLT, Nat.reduceLeDiff, Nat.reduceBEq, Nat.reduceMul, Nat.reduceSub, Nat.reduceDiv, Int.reduceNeg, Int.reduceLT, Int.reduceLE, Int.reduceEq, Int.reduceToNat, lk10]
  refine aops_pure' (b4) rfl rfl (by first | exact wk_refls _ | (repeat constructor)) ?_
  simp (config := { maxSteps := 2000000 }) only [go_sem, reduceIte, Nat.reduceEqDiff, Nat.reduceAdd, Nat.reduceLT, Nat.reduceLeDiff, Nat.reduceBEq, Nat.reduceMul, Nat.reduceSub, Nat.reduceDiv, Int.reduceNeg, Int.reduceLT, Int.reduceLE, Int.reduceEq, Int.reduceToNat, lk10, ints, l1, l2, l3, y3]
  refine aops_pure' (longs22 (bothL (seeL (pX (trueT c by')) a) (seeL (pX (trueT c by')) x)) (bothL (seeL (pX (trueT c by')) a) (seeL (pX (trueT c by')) x))) rfl rfl (by first | exact wk_refls _ | (repeat constructor)) ?_
  simp (config := { maxSteps := 2000000 }) only [go_sem, reduceIte, Nat.reduceEqDiff, Nat.reduceAdd, Nat.reduceLT, Nat.reduceLeDiff, Nat.reduceBEq, Nat.reduceMul, Nat.reduceSub, Nat.reduceDiv, Int.reduceNeg, Int.reduceLT, Int.reduceLE, Int.reduceEq, Int.reduceToNat, lk10, csC]
  refine dops_pure' (s1) rfl rfl (by first | exact wk_refls _ | (repeat constructor)) (by kernel_rfl) ?_
  simp (config := { maxSteps := 2000000 }) only [go_sem, reduceIte, Nat.reduceEqDiff, Nat.reduceAdd, Nat.reduceLT, Nat.reduceLeDiff, Nat.reduceBEq, Nat.reduceMul, Nat.reduceSub, Nat.reduceDiv, Int.reduceNeg, Int.reduceLT, Int.reduceLE, Int.reduceEq, Int.reduceToNat, lk10, csC]
  refine dops_pure' (s2) rfl rfl (by first | exact wk_refls _ | (repeat constructor)) (by kernel_rfl) ?_
  cases p1 : partB c (lessL a b) with
  | true =>
    rw [p1, if_pos rfl] at s4 s5
    simp (config := { maxSteps := 2000000 }) only [go_sem, reduceIte, Nat.reduceEqDiff, Nat.reduceAdd, Nat.reduceLT, Nat.reduceLeDiff, Nat.reduceBEq, Nat.reduceMul, Nat.reduceSub, Nat.reduceDiv, Int.reduceNeg, Int.reduceLT, Int.reduceLE, Int.reduceEq, Int.reduceToNat, lk10, csC]
    refine aops_pure' (s4) rfl rfl (by first | exact wk_refls _ | (repeat constructor)) ?_
    simp (config := { maxSteps := 2000000 }) only [go_sem, reduceIte, Nat.reduceEqDiff, Nat.reduceAdd, Nat.reduceLT, Nat.reduceLeDiff, Nat.reduceBEq, Nat.reduceMul, Nat.reduceSub, Nat.reduceDiv, Int.reduceNeg, Int.reduceLT, Int.reduceLE, Int.reduceEq, Int.reduceToNat, lk10, csC]
    refine aops_pure' (s5) rfl rfl (by first | exact wk_refls _ | (repeat constructor)) ?_
    simp (config := { maxSteps := 2000000 }) only [go_sem, reduceIte, Nat.reduceEqDiff, Nat.reduceAdd, Nat.reduceLT, Nat.reduceLeDiff, Nat.reduceBEq, Nat.reduceMul, Nat.reduceSub, Nat.reduceDiv, Int.reduceNeg, Int.reduceLT, Int.reduceLE, Int.reduceEq, Int.reduceToNat, lk10]
    refine aops_pure' (works15) rfl rfl (by first | exact wk_refls _ | (repeat constructor)) ?_
    simp (config := { maxSteps := 2000000 }) only [go_sem, reduceIte, Nat.reduceEqDiff, Nat.reduceAdd, Nat.reduceLT, Nat.reduceLeDiff, Nat.reduceBEq, Nat.reduceMul, Nat.reduceSub, Nat.reduceDiv, Int.reduceNeg, Int.reduceLT, Int.reduceLE, Int.reduceEq, Int.reduceToNat, lk10]
  | false =>
    rw [p1, if_neg Bool.false_ne_true] at s4 s5
    cases p2 : partB c (lessL x y) with
    | true =>
      simp (config := { maxSteps := 2000000 }) only [go_sem, reduceIte, Nat.reduceEqDiff, Nat.reduceAdd, Nat.reduceLT, Nat.reduceLeDiff, Nat.reduceBEq, Nat.reduceMul, Nat.reduceSub, Nat.reduceDiv, Int.reduceNeg, Int.reduceLT, Int.reduceLE, Int.reduceEq, Int.reduceToNat, lk10, csC]
      refine aops_pure' (s4) rfl rfl (by first | exact wk_refls _ | (repeat constructor)) ?_
      simp (config := { maxSteps := 2000000 }) only [go_sem, reduceIte, Nat.reduceEqDiff, Nat.reduceAdd, Nat.reduceLT, Nat.reduceLeDiff, Nat.reduceBEq, Nat.reduceMul, Nat.reduceSub, Nat.reduceDiv, Int.reduceNeg, Int.reduceLT, Int.reduceLE, Int.reduceEq, Int.reduceToNat, lk10, csC]
      refine aops_pure' (s5) rfl rfl (by first | exact wk_refls _ | (repeat constructor)) ?_
      simp (config := { maxSteps := 2000000 }) only [go_sem, reduceIte, Nat.reduceEqDiff, Nat.reduceAdd, Nat.reduceLT, Nat.reduceLeDiff, Nat.reduceBEq, Nat.reduceMul, Nat.reduceSub, Nat.reduceDiv, Int.reduceNeg, Int.reduceLT, Int.reduceLE, Int.reduceEq, Int.reduceToNat, lk10]
      refine aops_pure' (works15) rfl rfl (by first | exact wk_refls _ | (repeat constructor)) ?_
      simp (config := { maxSteps := 2000000 }) only [go_sem, reduceIte, Nat.reduceEqDiff, Nat.reduceAdd, Nat.reduceLT, Nat.reduceLeDiff, Nat.reduceBEq, Nat.reduceMul, Nat.reduceSub, Nat.reduceDiv, Int.reduceNeg, Int.reduceLT, Int.reduceLE, Int.reduceEq, Int.reduceToNat, lk10]
    | false =>
      rw [k2 p1 p2, if_neg Bool.false_ne_true] at s3
      simp (config := { maxSteps := 2000000 }) only [go_sem, reduceIte, Nat.reduceEqDiff, Nat.reduceAdd, Nat.reduceLT, Nat.reduceLeDiff, Nat.reduceBEq, Nat.reduceMul, Nat.reduceSub, Nat.reduceDiv, Int.reduceNeg, Int.reduceLT, Int.reduceLE, Int.reduceEq, Int.reduceToNat, lk10, csC]
      refine aops_pure' (s3) rfl rfl (by first | exact wk_refls _ | (repeat constructor)) ?_
      simp (config := { maxSteps := 2000000 }) only [go_sem, reduceIte, Nat.reduceEqDiff, Nat.reduceAdd, Nat.reduceLT, Nat.reduceLeDiff, Nat.reduceBEq, Nat.reduceMul, Nat.reduceSub, Nat.reduceDiv, Int.reduceNeg, Int.reduceLT, Int.reduceLE, Int.reduceEq, Int.reduceToNat, lk10, csC]
      refine aops_pure' (s4) rfl rfl (by first | exact wk_refls _ | (repeat constructor)) ?_
      simp (config := { maxSteps := 2000000 }) only [go_sem, reduceIte, Nat.reduceEqDiff, Nat.reduceAdd, Nat.reduceLT, Nat.reduceLeDiff, Nat.reduceBEq, Nat.reduceMul, Nat.reduceSub, Nat.reduceDiv, Int.reduceNeg, Int.reduceLT, Int.reduceLE, Int.reduceEq, Int.reduceToNat, lk10, csC]
      refine aops_pure' (s5) rfl rfl (by first | exact wk_refls _ | (repeat constructor)) ?_
      simp (config := { maxSteps := 2000000 }) only [go_sem, reduceIte, Nat.reduceEqDiff, Nat.reduceAdd, Nat.reduceLT, Nat.reduceLeDiff, Nat.reduceBEq, Nat.reduceMul, Nat.reduceSub, Nat.reduceDiv, Int.reduceNeg, Int.reduceLT, Int.reduceLE, Int.reduceEq, Int.reduceToNat, lk10]
      refine aops_pure' (works15) rfl rfl (by first | exact wk_refls _ | (repeat constructor)) ?_
      simp (config := { maxSteps := 2000000 }) only [go_sem, reduceIte, Nat.reduceEqDiff, Nat.reduceAdd, Nat.reduceLT, Nat.reduceLeDiff, Nat.reduceBEq, Nat.reduceMul, Nat.reduceSub, Nat.reduceDiv, Int.reduceNeg, Int.reduceLT, Int.reduceLE, Int.reduceEq, Int.reduceToNat, lk10]
end Go.Proofs.Ytjkpfojkkfopmaa
