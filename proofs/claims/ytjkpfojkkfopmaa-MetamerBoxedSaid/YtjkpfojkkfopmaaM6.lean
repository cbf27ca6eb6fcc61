/- Metamers: differences, and what a truth shows. -/
import Derived.Test.YtjkpfojkkfopmaaM5
set_option linter.unusedSimpArgs false
set_option linter.unusedVariables false
set_option maxRecDepth 100000
namespace Go.Proofs.Ytjkpfojkkfopmaa
open Go Go.Abs Go.Proofs
def kp55 : List (Nat × List Nat) := [(0, [0]), (1, [0, 4]), (2, [2]), (3, [2])]
theorem lk55 : lookK kp55 0 = some [0] ∧ lookK kp55 1 = some [0, 4] ∧ lookK kp55 2 = some [2] ∧ lookK kp55 3 = some [2] := ⟨rfl, rfl, rfl, rfl⟩
def kp64 : List (Nat × List Nat) := [(0, [0, 1]), (1, [0, 1, 5]), (2, [1, 5]), (3, [5, 14, 15, 16]), (4, [5, 14, 15, 16, 17]), (5, [5, 6, 7, 14, 15, 16]), (6, [5, 14, 15, 16]), (7, [5, 14, 15, 16]), (8, [4])]
theorem lk64 : lookK kp64 0 = some [0, 1] ∧ lookK kp64 1 = some [0, 1, 5] ∧ lookK kp64 2 = some [1, 5] ∧ lookK kp64 3 = some [5, 14, 15, 16] ∧ lookK kp64 4 = some [5, 14, 15, 16, 17] ∧ lookK kp64 5 = some [5, 6, 7, 14, 15, 16] ∧ lookK kp64 6 = some [5, 14, 15, 16] ∧ lookK kp64 7 = some [5, 14, 15, 16] ∧ lookK kp64 8 = some [4] := ⟨rfl, rfl, rfl, rfl, rfl, rfl, rfl, rfl, rfl⟩
def kp65 : List (Nat × List Nat) := [(0, [0, 1]), (1, [0, 1, 5]), (2, [0, 1, 5, 6]), (3, [0, 1, 5, 6, 10]), (4, [0, 1, 5, 6]), (5, [0, 1, 5, 6]), (6, [4])]
theorem lk65 : lookK kp65 0 = some [0, 1] ∧ lookK kp65 1 = some [0, 1, 5] ∧ lookK kp65 2 = some [0, 1, 5, 6] ∧ lookK kp65 3 = some [0, 1, 5, 6, 10] ∧ lookK kp65 4 = some [0, 1, 5, 6] ∧ lookK kp65 5 = some [0, 1, 5, 6] ∧ lookK kp65 6 = some [4] := ⟨rfl, rfl, rfl, rfl, rfl, rfl, rfl⟩
def kp31 : List (Nat × List Nat) := [(0, [1, 2]), (1, [1, 2, 5]), (2, [1, 2, 5, 6]), (3, [1, 2, 5, 6, 10]), (4, [1, 2, 5, 6]), (5, [1, 2, 5, 6, 7]), (6, [1, 2, 5, 6, 7, 16]), (7, [1, 2, 5, 6, 7]), (8, [1, 2, 5, 6, 7]), (9, [4])]
theorem lk31 : lookK kp31 0 = some [1, 2] ∧ lookK kp31 1 = some [1, 2, 5] ∧ lookK kp31 2 = some [1, 2, 5, 6] ∧ lookK kp31 3 = some [1, 2, 5, 6, 10] ∧ lookK kp31 4 = some [1, 2, 5, 6] ∧ lookK kp31 5 = some [1, 2, 5, 6, 7] ∧ lookK kp31 6 = some [1, 2, 5, 6, 7, 16] ∧ lookK kp31 7 = some [1, 2, 5, 6, 7] ∧ lookK kp31 8 = some [1, 2, 5, 6, 7] ∧ lookK kp31 9 = some [4] := ⟨rfl, rfl, rfl, rfl, rfl, rfl, rfl, rfl, rfl, rfl⟩

def lessL (a b : List Int) : List Int := (List.range a.length).map (fun k => gI a k - gI b k)
theorem lessL_len (a b : List Int) : (lessL a b).length = a.length := by simp [lessL]
theorem gI_less {a b : List Int} {k : Nat} (h : k < a.length) : gI (lessL a b) k = gI a k - gI b k := by
  apply gI_get; simp [lessL, h]
theorem ints_nums (n : Nat) (f : Nat → Int) : V.c (.d (.sl ((List.range n).map (fun k => iD (f k))))) = ints ((List.range n).map f) := by rw [ints, List.map_map]; rfl
theorem nums_all (l : List Int) : numsC l.length (gI l) = (l.map iD).flatten.map .d := by
  refine List.ext_getElem? fun j => ?_
  have e : ((l.map iD).flatten.map C.d) = l.map (fun x => C.d (.int .i64 x)) := by
    induction l with
    | nil => rfl
    | cons a l ih => simp only [List.map_cons, List.flatten_cons, List.map_append]; rw [ih]; rfl
  rw [e]
  by_cases h : j < l.length
  · rw [numsC_get _ h, List.getElem?_map, gI_lt h]; rfl
  · rw [List.getElem?_eq_none (by rw [numsC_len]; omega), List.getElem?_eq_none (by simp; omega)]
theorem setMany_app {α : Type} : ∀ (ys zs xs : List α), xs.length = zs.length + ys.length → xs.take zs.length = zs → setMany xs zs.length ys = zs ++ ys
  | [], zs, xs, h1, h2 => by simp only [setMany, List.append_nil]; rw [← h2, List.take_of_length_le (by simp at h1; omega)]
  | y :: ys, zs, xs, h1, h2 => by
    have h3 := setMany_app ys (zs ++ [y]) (xs.set zs.length y) (by simp at h1 ⊢; omega) (by
      rw [List.length_append, List.length_singleton, List.take_add_one, List.take_set_of_le (Nat.le_refl _), h2, List.getElem?_set_self (by simp at h1; omega)]; rfl)
    simp only [setMany]
    rw [List.length_append, List.length_singleton] at h3
    rw [h3]; simp
theorem setMany_all {α : Type} (ys xs : List α) (h : xs.length = ys.length) : setMany xs 0 ys = ys := by
  have := setMany_app ys [] xs (by simpa using h) rfl
  simpa using this
theorem rep_nums (n : Nat) : (List.replicate n [C.d (.int .i64 0)]).flatten = numsC n (fun _ => 0) := zc_nums n
theorem src_ints (H : List AB) (l : List Int) : srcCells H 1 l.length (.d (.sl (l.map iD))) = some (numsC l.length (gI l)) := by
  have d3 : (l.map iD).all (fun r => r.length == 1) = true := by simp [iD]
  have d4 : l.length ≤ (l.map iD).length := by simp
  rw [nums_all]
  simp only [srcCells, rowsOf, d3, d4, and_self, if_true]
  rw [List.take_of_length_le (by simp)]
theorem set_ints (n : Nat) (f g : Nat → Int) : setMany (numsC n f) 0 (numsC n g) = numsC n g := setMany_all _ _ (by rw [numsC_len, numsC_len])

def lessM (a b : List Int) (i : Nat) : Nat → Int := fun k => if k < i then gI a k - gI b k else gI a k
theorem lessM_zero (a b : List Int) : lessM a b 0 = gI a := by funext k; simp [lessM]
theorem lessM_at (a b : List Int) (i : Nat) : lessM a b i i = gI a i := by simp [lessM]
theorem lessM_upd {a b : List Int} {i : Nat} {v : Int} (h : v = gI a i - gI b i) : upd (lessM a b i) i v = lessM a b (i + 1) := by
  funext k
  by_cases e : k = i
  · subst e; rw [upd_same, h]; simp [lessM]
  · rw [upd_ne _ _ e]
    simp only [lessM]
    have : k < i + 1 ↔ k < i := by omega
    simp only [this]
theorem lessM_all (a b : List Int) : (List.range a.length).map (fun k => iD (lessM a b a.length k)) = (lessL a b).map iD := by
  rw [lessL, List.map_map]
  refine List.map_congr_left fun k hk => ?_
  simp at hk
  simp [lessM, hk]

set_option maxHeartbeats 4000000 in
theorem less64 (a b : List Int) (hab : b.length = a.length) (ha : Spec a) (hb : Spec b) : Pure Try.prog 64 [ints a, ints b] (ints (lessL a b)) := by
  refine pure_fzE (bad := []) (kp := kp64) (X := tx) (nt := 30) (rs := [.tmp 4]) Try.func64 rfl rfl rfl rfl mo (by kernel_rfl) rfl rfl (fun hf => ?_)
  have hn8 := ha.n8
  simp (maxSteps := 2000000) only [go_sem, reduceIte, Nat.reduceEqDiff, Nat.reduceAdd, Nat.reduceLT, lk55, lk64, lk65, lk31, ints, nn, Int.toNat_natCast, rep_nums, Nat.min_self, List.length_map, numsC_len, Nat.le_refl, src_ints, set_ints]
  refine ⟨by rw [Bool.and_eq_true, Bool.and_eq_true]; exact ⟨⟨decide_eq_true (Int.le_refl _), decide_eq_true (by show (8 : Int) * _ ≤ _; omega)⟩, decide_eq_true (by show (_ : Int) ≤ 140737488355328; omega)⟩, by simp, ?_⟩
  refine goE_loop (bad := []) (kp := kp64) (fun i : Nat => { slots := [(5, .c (.ms 0 0 a.length a.length)), (14, ints b), (15, I a.length), (16, I i)], heap := [.cells (numsC a.length (lessM a b i))], marks := [] }) (fun i => i ≤ a.length) (fun i => a.length - i) 0 mo (by kernel_rfl) ?_ (Nat.zero_le _) ?_
  · refine ent_weaken [] (by simp only [lessM_zero, List.append_nil]) rfl (Nat.zero_le _) (by simp [AB.low, numsC_low]) rfl ?_
    simp (maxSteps := 2000000) only [go_sem, reduceIte, Nat.reduceEqDiff, Nat.reduceLT, lk55, lk64, lk65, lk31, ints, hab]
    all_goals first | exact .refl _ | exact ⟨.refl _, .refl _⟩ | exact ⟨.refl _, .refl _, .refl _⟩ | exact ⟨.refl _, _, rfl⟩ | exact ⟨_, rfl⟩ | exact ⟨.refl _, [], by simp⟩ | exact ⟨[], by simp⟩
  rintro i hi
  simp (maxSteps := 2000000) only [go_sem, reduceIte, Nat.reduceEqDiff, Nat.reduceAdd, lk55, lk64, lk65, lk31, ints]
  by_cases hlt : i < a.length
  · have hlt' : (i : Int) < a.length := by omega
    have m1 : a.length - (i + 1) < a.length - i := by omega
    have g0 := gI_lt (l := b) (b := i) (by omega)
    have g1 := numsC_get (lessM a b i) hlt
    rw [lessM_at] at g1
    have c1 : (i : Int) < b.length := by omega
    have c3 : decide (i + 1 ≤ a.length) = true := by simp; omega
    have c4 := ha.g hlt
    have c5 := hb.g (b := i) (by omega)
    have w3 : wr .i64 ((i : Int) + 1) = ((i + 1 : Nat) : Int) := wr_succ hlt (by omega)
    have w1 : wr .i64 (gI a i - gI b i) = gI a i - gI b i := by rw [wr_i64] <;> omega
    clear c4 c5
    simp (maxSteps := 2000000) only [go_sem, reduceIte, Nat.reduceEqDiff, Nat.reduceAdd, lk55, lk64, lk65, lk31, hlt', g0, g1, nn, iD, c1, c3, w1, w3, numsC_len, Nat.mul_one, Nat.zero_add]
    refine ⟨i + 1, hlt, m1, ?_⟩
    refine ent_weaken [] (by simp only [numsC_set, lessM_upd rfl, List.append_nil]) rfl (Nat.zero_le _) (by simp [AB.low, numsC_low]) rfl ?_
    simp (maxSteps := 2000000) only [go_sem, reduceIte, Nat.reduceEqDiff, Nat.reduceLT, lk55, lk64, lk65, lk31, ints, hab]
    all_goals first | exact .refl _ | exact ⟨.refl _, .refl _⟩ | exact ⟨.refl _, .refl _, .refl _⟩ | exact ⟨.refl _, _, rfl⟩ | exact ⟨_, rfl⟩ | exact ⟨.refl _, [], by simp⟩ | exact ⟨[], by simp⟩
  · have hlt' : ¬ (i : Int) < a.length := by omega
    have e : i = a.length := by omega
    subst e
    simp (maxSteps := 2000000) only [go_sem, reduceIte, Nat.reduceEqDiff, Nat.reduceAdd, lk55, lk64, lk65, lk31, hlt']
    refine ⟨0, numsC a.length (lessM a b a.length), numsD a.length (lessM a b a.length), _, rfl, toDs_d _, .v (.c (.ms 0 1 a.length a.length (by rw [numsD_len]; omega) (Nat.le_refl _) (by unfold lim; omega))), ?_⟩
    rw [List.drop_zero, chunk_nums, lessM_all]
    exact .refl _

theorem lessL_take (a b : List Int) : (List.range a.length).map (fun k => iD (gI a k - gI b k)) = (lessL a b).map iD := by
  rw [lessL, List.map_map]; rfl
theorem range_succ_map {α : Type} (f : Nat → α) (n : Nat) : (List.range (n + 1)).map f = (List.range n).map f ++ [f n] := by
  rw [List.range_succ, List.map_append]; rfl
set_option maxHeartbeats 4000000 in
theorem less65 (a b : List Int) (hab : b.length = a.length) (ha : Spec a) (hb : Spec b) : Pure Try.prog 65 [ints a, ints b] (ints (lessL a b)) := by
  refine pure_wkE (bad := []) (kp := kp65) (X := tx) (nt := 26) (rs := [.tmp 4]) Try.func65 rfl rfl rfl rfl mo (by kernel_rfl) rfl rfl (fun hf => ?_)
  have hn8 := ha.n8
  simp (maxSteps := 2000000) only [go_sem, reduceIte, Nat.reduceEqDiff, Nat.reduceAdd, lk55, lk64, lk65, lk31, ints]
  refine goE_loop (bad := []) (kp := kp65) (fun i : Nat => { slots := [(0, ints a), (1, ints b), (5, .c (.own 0 ((List.range i).map (fun k => iD (gI a k - gI b k))))), (6, I i)], heap := [.grow i 1], marks := [] }) (fun i => i ≤ a.length) (fun i => a.length - i) 0 mo (by kernel_rfl) ?_ (Nat.zero_le _) ?_
  · refine Ent.trans (ent_own 5 1 rfl) ?_
    refine ent_weaken [] rfl rfl (Nat.zero_le _) rfl rfl ?_
    simp (maxSteps := 2000000) only [go_sem, reduceIte, Nat.reduceEqDiff, Nat.reduceLT, lk55, lk64, lk65, lk31, ints, List.range_zero, List.map_nil]
    all_goals first | exact .refl _ | exact ⟨.refl _, .refl _⟩ | exact ⟨.refl _, .refl _, .refl _⟩ | exact ⟨.refl _, _, rfl⟩ | exact ⟨_, rfl⟩ | exact ⟨.refl _, [], by simp⟩ | exact ⟨[], by simp⟩
  rintro i hi
  simp (maxSteps := 2000000) only [go_sem, reduceIte, Nat.reduceEqDiff, Nat.reduceAdd, lk55, lk64, lk65, lk31, ints]
  by_cases hlt : i < a.length
  · have hlt' : (i : Int) < a.length := by omega
    have m1 : a.length - (i + 1) < a.length - i := by omega
    have g0 := gI_lt (l := b) (b := i) (by omega)
    have g1 := gI_lt hlt
    have c1 : (i : Int) < b.length := by omega
    have c4 := ha.g hlt
    have c5 := hb.g (b := i) (by omega)
    have w3 : wr .i64 ((i : Int) + 1) = ((i + 1 : Nat) : Int) := wr_succ hlt (by omega)
    have w1 : wr .i64 (gI a i - gI b i) = gI a i - gI b i := by rw [wr_i64] <;> omega
    clear c4 c5
    have e1 := range_succ_map (fun k => iD (gI a k - gI b k)) i
    have z1 : i ≤ 8 := by omega
    simp (maxSteps := 2000000) only [go_sem, reduceIte, Nat.reduceEqDiff, Nat.reduceAdd, Nat.reduceLT, Nat.reduceLeDiff, Nat.reduceBEq, Nat.reduceMul, lk55, lk64, lk65, lk31, hlt', g0, g1, nn, iD, c1, w1, w3, List.length_map, List.length_range]
    refine ⟨by simp; omega, i + 1, hlt, m1, ?_⟩
    refine ent_weaken [] rfl rfl (Nat.zero_le _) rfl rfl ?_
    simp (maxSteps := 2000000) only [go_sem, reduceIte, Nat.reduceEqDiff, Nat.reduceLT, lk55, lk64, lk65, lk31, ints, List.range_succ, List.map_append, List.map_cons, List.map_nil, iD]
    all_goals first | exact .refl _ | exact ⟨.refl _, .refl _⟩ | exact ⟨.refl _, .refl _, .refl _⟩ | exact ⟨.refl _, _, rfl⟩ | exact ⟨_, rfl⟩ | exact ⟨.refl _, [], by simp⟩ | exact ⟨[], by simp⟩
  · have hlt' : ¬ (i : Int) < a.length := by omega
    have e : i = a.length := by omega
    subst e
    simp (maxSteps := 2000000) only [go_sem, reduceIte, Nat.reduceEqDiff, Nat.reduceAdd, lk55, lk64, lk65, lk31, hlt', lessL_take]
    all_goals first | exact .refl _ | exact ⟨.refl _, .refl _⟩ | exact ⟨.refl _, .refl _, .refl _⟩ | exact ⟨.refl _, _, rfl⟩ | exact ⟨_, rfl⟩ | exact ⟨.refl _, [], by simp⟩ | exact ⟨[], by simp⟩

set_option maxHeartbeats 1000000 in
theorem clone55 (f : Nat → Int) (id : Nat) (H : List AB) (h1 : H[id]? = some (.cells (numsC 3 f))) (hH : H.all (AB.low H.length) = true) : ACall Try.prog 55 [.c (.ms id 0 3 3)] H (one (ints [f 0, f 1, f 2]) H) := by
  have hlt := (List.getElem?_eq_some_iff.1 h1).1
  refine acall_atE (bad := []) (kp := kp55) (X := tx) (nt := 8) (rs := [.tmp 2]) Try.func55 rfl rfl rfl rfl mo (by kernel_rfl) rfl hH (fun hf => ?_)
  simp (maxSteps := 2000000) only [go_sem, reduceIte, Nat.reduceEqDiff, Nat.reduceAdd, Nat.reduceLT, Nat.reduceLeDiff, Nat.reduceBEq, Nat.reduceMul, Nat.reduceDiv, lk55, lk64, lk65, lk31, h1, nilS, nilOp, sureC, numsC3]
  exact ⟨.c (.own _ _), _, rfl⟩

def seeL (p : Nat → Nat → Int) (l : List Int) : List Int := [seeF p l 0, seeF p l 1, seeF p l 2]
/-- In the midst of ref.See. -/
def refM (p : Nat → Nat → Int) (l : List Int) (i b : Nat) : Nat → Int := fun k => if k < i then seeS p l k l.length else if k = i then seeS p l k b else 0
theorem refM_zero (p : Nat → Nat → Int) (l : List Int) : refM p l 0 0 = fun _ => 0 := by
  funext k; simp only [refM, Nat.not_lt_zero, if_false]; split <;> rfl
theorem refM_at (p : Nat → Nat → Int) (l : List Int) (i b : Nat) : refM p l i b i = seeS p l i b := by simp [refM]
theorem refM_next (p : Nat → Nat → Int) (l : List Int) (i : Nat) : refM p l i l.length = refM p l (i + 1) 0 := by
  funext k
  simp only [refM]
  by_cases h1 : k < i
  · simp [h1, show k < i + 1 by omega]
  · by_cases h2 : k = i
    · subst h2; simp
    · by_cases h3 : k = i + 1
      · subst h3; have h4 : ¬ i + 1 < i := by omega
        simp [seeS, sumF, h4]
      · simp [h1, h2, h3, show ¬ k < i + 1 by omega]
theorem refM_upd {p : Nat → Nat → Int} {l : List Int} {i b : Nat} {v : Int} (h : v = seeS p l i (b + 1)) : upd (refM p l i b) i v = refM p l i (b + 1) := by
  funext k
  by_cases e : k = i
  · subst e; rw [upd_same, h]; simp [refM]
  · rw [upd_ne _ _ e]; simp only [refM, e, if_false]
theorem refM_all (p : Nat → Nat → Int) (l : List Int) : (List.range 3).map (fun k => iD (refM p l 3 0 k)) = (seeL p l).map iD := rfl

set_option maxHeartbeats 4000000 in
theorem see31 {c : Cs} (x : Tr) (l : List Int) (hc : OkC c) (hT : OkT c x) (hl : Spec l) (hn : l.length ≤ c.lamp.length) : Pure Try.prog 31 [trV x, ints l] (ints (seeL (pX x) l)) := by
  refine pure_fzE (bad := []) (kp := kp31) (X := tx) (nt := 45) (rs := [.tmp 4]) Try.func31 rfl rfl rfl rfl mo (by kernel_rfl) rfl rfl (fun hf => ?_)
  have hp := OkT.okX hc hT hn
  have hn8 := hl.n8
  have he3 := hT.e3
  have hln := hT.ln
  simp (maxSteps := 2000000) only [go_sem, reduceIte, Nat.reduceEqDiff, Nat.reduceAdd, Int.reduceLE, Int.reduceToNat, lk55, lk64, lk65, lk31, trV, trC, ints, rep_nums]
  refine ⟨by decide, ?_⟩
  refine goE_loop (bad := []) (kp := kp31) (fun i : Nat => { slots := [(1, ints l), (2, .c (.ptr 0 0)), (5, .c (.ms 1 0 3 3)), (6, I i)], heap := [.cells (trC x), .cells (numsC 3 (refM (pX x) l i 0))], marks := [] }) (fun i => i ≤ 3) (fun i => 3 - i) 0 mo (by kernel_rfl) ?_ (Nat.zero_le _) ?_
  · refine ent_weaken [] (by simp only [refM_zero, List.append_nil, trC]; rfl) rfl (Nat.zero_le _) (by simp [AB.low, numsC_low, trC, C.lowL, C.low]) rfl ?_
    simp (maxSteps := 2000000) only [go_sem, reduceIte, Nat.reduceEqDiff, Nat.reduceAdd, Nat.reduceLT, lk55, lk64, lk65, lk31, ints, trC]
    all_goals first | exact .refl _ | exact ⟨.refl _, .refl _⟩ | exact ⟨.refl _, .refl _, .refl _⟩ | exact ⟨.refl _, _, rfl⟩ | exact ⟨_, rfl⟩ | exact ⟨.refl _, [], by simp⟩ | exact ⟨[], by simp⟩
  rintro i hi
  simp (maxSteps := 2000000) only [go_sem, reduceIte, Nat.reduceEqDiff, Nat.reduceAdd, lk55, lk64, lk65, lk31, trC]
  by_cases hlt : i < 3
  · have hlt' : (i : Int) < 3 := by omega
    have m1 : 3 - (i + 1) < 3 - i := by omega
    have w3 : wr .i64 ((i : Int) + 1) = ((i + 1 : Nat) : Int) := by rw [wr_i64] <;> omega
    simp (maxSteps := 2000000) only [go_sem, reduceIte, Nat.reduceEqDiff, Nat.reduceAdd, lk55, lk64, lk65, lk31, hlt']
    refine goE_loop (bad := []) (kp := kp31) (fun b : Nat => { slots := [(1, ints l), (2, .c (.ptr 0 0)), (5, .c (.ms 1 0 3 3)), (6, I i), (7, I b)], heap := [.cells (trC x), .cells (numsC 3 (refM (pX x) l i b))], marks := [] }) (fun b => b ≤ l.length) (fun b => l.length - b) 0 mo (by kernel_rfl) ?_ (Nat.zero_le _) ?_
    · refine ent_weaken [] (by simp only [List.append_nil, trC]) rfl (Nat.zero_le _) (by simp [AB.low, numsC_low, trC, C.lowL, C.low]) rfl ?_
      simp (maxSteps := 2000000) only [go_sem, reduceIte, Nat.reduceEqDiff, Nat.reduceAdd, Nat.reduceLT, lk55, lk64, lk65, lk31, ints, trC]
      all_goals first | exact .refl _ | exact ⟨.refl _, .refl _⟩ | exact ⟨.refl _, .refl _, .refl _⟩ | exact ⟨.refl _, _, rfl⟩ | exact ⟨_, rfl⟩ | exact ⟨.refl _, [], by simp⟩ | exact ⟨[], by simp⟩
    rintro b hb
    simp (maxSteps := 2000000) only [go_sem, reduceIte, Nat.reduceEqDiff, Nat.reduceAdd, lk55, lk64, lk65, lk31, trC, ints]
    by_cases hlb : b < l.length
    · have hlb' : (b : Int) < l.length := by omega
      have m2 : l.length - (b + 1) < l.length - b := by omega
      obtain ⟨row, hr⟩ := get_of_lt (show i < x.eye.length by omega)
      have hrl := hT.er row (List.mem_of_getElem? hr)
      have g1 := Tr.e_at hr (b := b) (by omega)
      have g2 := Tr.l_lt (c := x) (b := b) (by omega)
      have g3 := gI_lt hlb
      have g4 := numsC_get (refM (pX x) l i b) hlt
      rw [refM_at] at g4
      have k1 : (i : Int) < x.eye.length := by omega
      have k2 : (b : Int) < row.length := by omega
      have k3 : (b : Int) < x.lamp.length := by omega
      have r1 : decide ((i : Int) < ((3 : Nat) : Int)) = true := by simp; omega
      have r2 : decide (i ≤ 2) = true := by simp; omega
      have r3 : decide (i + 1 ≤ 3) = true := by simp; omega
      have b0 := hp i b hlt hlb
      have b1 := seeS_bound hl hp hlt hb
      have b2 := seeS_bound hl hp hlt (show b + 1 ≤ l.length from hlb)
      have b3 := mul_bound (hl.g hlb) b0
      have e1 : seeS (pX x) l i b + pX x i b * gI l b = seeS (pX x) l i (b + 1) := by rw [Int.mul_comm]; rfl
      have w4 : wr .i64 ((b : Int) + 1) = ((b + 1 : Nat) : Int) := wr_succ hlb (by omega)
      have w0 : wr .i64 (x.e i b * x.l b) = pX x i b := by
        have e : x.e i b * x.l b = pX x i b := rfl
        rw [e, wr_i64] <;> omega
      have w1 : wr .i64 (pX x i b * gI l b) = pX x i b * gI l b := by rw [Int.mul_comm, wr_i64] <;> omega
      have w2 : wr .i64 (seeS (pX x) l i b + pX x i b * gI l b) = seeS (pX x) l i (b + 1) := by rw [e1, wr_i64] <;> omega
      clear b0 b1 b2 b3 e1
      simp (maxSteps := 2000000) only [go_sem, reduceIte, Nat.reduceEqDiff, Nat.reduceAdd, Nat.reduceLeDiff, Nat.reduceBEq, lk55, lk64, lk65, lk31, hlb', hr, rowI, iD, g1, g2, g3, g4, k1, k2, k3, r1, r2, r3, nn, w0, w1, w2, w4, numsC_len, Nat.mul_one, Nat.zero_add]
      refine ⟨b + 1, hlb, m2, ?_⟩
      refine ent_weaken [] (by simp only [numsC_set, refM_upd rfl, List.append_nil, trC, rowI, iD]) rfl (Nat.zero_le _) (by simp [AB.low, numsC_low, trC, C.lowL, C.low]) rfl ?_
      simp (maxSteps := 2000000) only [go_sem, reduceIte, Nat.reduceEqDiff, Nat.reduceAdd, Nat.reduceLT, lk55, lk64, lk65, lk31, ints, trC]
      all_goals first | exact .refl _ | exact ⟨.refl _, .refl _⟩ | exact ⟨.refl _, .refl _, .refl _⟩ | exact ⟨.refl _, _, rfl⟩ | exact ⟨_, rfl⟩ | exact ⟨.refl _, [], by simp⟩ | exact ⟨[], by simp⟩
    · have hlb' : ¬ (b : Int) < l.length := by omega
      have e : b = l.length := by omega
      subst e
      simp (maxSteps := 2000000) only [go_sem, reduceIte, Nat.reduceEqDiff, Nat.reduceAdd, lk55, lk64, lk65, lk31, hlb', w3]
      refine ⟨i + 1, hlt, m1, ?_⟩
      refine ent_weaken [] (by simp only [refM_next, List.append_nil, trC]) rfl (Nat.zero_le _) (by simp [AB.low, numsC_low, trC, C.lowL, C.low]) rfl ?_
      simp (maxSteps := 2000000) only [go_sem, reduceIte, Nat.reduceEqDiff, Nat.reduceAdd, Nat.reduceLT, lk55, lk64, lk65, lk31, ints, trC]
      all_goals first | exact .refl _ | exact ⟨.refl _, .refl _⟩ | exact ⟨.refl _, .refl _, .refl _⟩ | exact ⟨.refl _, _, rfl⟩ | exact ⟨_, rfl⟩ | exact ⟨.refl _, [], by simp⟩ | exact ⟨[], by simp⟩
  · have hlt' : ¬ (i : Int) < 3 := by omega
    have e : i = 3 := by omega
    subst e
    simp (maxSteps := 2000000) only [go_sem, reduceIte, Nat.reduceEqDiff, Nat.reduceAdd, Nat.reduceSub, lk55, lk64, lk65, lk31, hlt']
    refine ⟨1, numsC 3 (refM (pX x) l 3 0), numsD 3 (refM (pX x) l 3 0), _, rfl, toDs_d _, .v (.c (.ms 0 1 3 3 (by rw [numsD_len]; omega) (Nat.le_refl _) (by unfold lim; omega))), ?_⟩
    rw [List.drop_zero, chunk_nums, refM_all]
    exact .refl _
end Go.Proofs.Ytjkpfojkkfopmaa
