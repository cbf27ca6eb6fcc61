/- What it costs to come to the ends: find. -/
import Derived.Test.YtfgdbeijjbijnaaGreatDoorHG17
set_option linter.unusedSimpArgs false
set_option linter.unusedVariables false
set_option linter.unusedSimpArgs false
set_option linter.unusedVariables false
set_option maxRecDepth 100000
namespace Go.Proofs.YtfgdbeijjbijnaaGreatDoor
open Go Go.Abs Go.Proofs
def B9 : List (Nat × List Nat) := [(0, [0, 2, 8, 9, 21, 22, 23, 24, 25, 26, 27, 28, 29, 30, 31, 32, 33, 34, 35, 36, 37, 38, 39, 40, 41, 42, 43, 44, 45, 46]), (1, [0, 2, 4, 8, 9, 21, 22, 23, 24, 25, 26, 27, 28, 29, 30, 31, 32, 33, 34, 35, 36, 37, 38, 39, 40, 41, 42, 43, 44, 45, 46]), (2, [0, 2, 4, 8, 9, 10, 21, 22, 23, 24, 25, 26, 27, 28, 29, 30, 31, 32, 33, 34, 35, 36, 37, 38, 39, 40, 41, 42, 43, 44, 45, 46]), (3, [0, 2, 4, 8, 9, 10, 11, 21, 22, 23, 24, 25, 26, 27, 28, 29, 30, 31, 32, 33, 34, 35, 36, 37, 38, 39, 40, 41, 42, 43, 44, 45, 46]), (4, [0, 2, 4, 5, 8, 9, 10, 21, 22, 23, 24, 25, 26, 27, 28, 29, 30, 31, 32, 33, 34, 35, 36, 37, 38, 39, 40, 41, 42, 43, 44, 45, 46]), (5, [0, 2, 4, 8, 9, 10, 21, 22, 23, 24, 25, 26, 27, 28, 29, 30, 31, 32, 33, 34, 35, 36, 37, 38, 39, 40, 41, 42, 43, 44, 45, 46]), (6, [0, 2, 4, 8, 9, 10, 21, 22, 23, 24, 25, 26, 27, 28, 29, 30, 31, 32, 33, 34, 35, 36, 37, 38, 39, 40, 41, 42, 43, 44, 45, 46]), (7, [0, 2, 4, 8, 9, 21, 22, 23, 24, 25, 26, 27, 28, 29, 30, 31, 32, 33, 34, 35, 36, 37, 38, 39, 40, 41, 42, 43, 44, 45, 46]), (8, [0, 2, 4, 6, 8, 9, 21, 22, 23, 24, 25, 26, 27, 28, 29, 30, 31, 32, 33, 34, 35, 36, 37, 38, 39, 40, 41, 42, 43, 44, 45, 46]), (9, [0, 2, 4, 6, 7, 8, 9, 21, 22, 23, 24, 25, 26, 27, 28, 29, 30, 31, 32, 33, 34, 35, 36, 37, 38, 39, 40, 41, 42, 43, 44, 45, 46]), (10, [0, 2, 4, 6, 7, 8, 9, 20, 21, 22, 23, 24, 25, 26, 27, 28, 29, 30, 31, 32, 33, 34, 35, 36, 37, 38, 39, 40, 41, 42, 43, 44, 45, 46]), (11, [0, 2, 4, 6, 7, 8, 9, 21, 27, 28, 29, 30, 31, 32, 33, 34, 35, 36, 37, 38, 39, 40, 41, 42, 43, 44, 45, 46]), (12, [0, 2, 4, 6, 7, 8, 9, 21, 22, 23, 24, 25, 26, 27, 28, 29, 30, 31, 32, 33, 34, 35, 36, 37, 38, 39, 40, 41, 42, 43, 44, 45, 46]), (13, [0, 2, 4, 6, 7, 8, 9, 21, 22, 23, 24, 25, 26, 27, 28, 29, 30, 43, 44, 45, 46]), (14, [0, 2, 4, 6, 7, 8, 9, 21, 22, 23, 24, 25, 26, 27, 28, 29, 30, 31, 32, 33, 34, 35, 36, 43, 44, 45, 46]), (15, [0, 2, 4, 6, 7, 8, 9, 21, 22, 23, 24, 25, 26, 27, 28, 29, 30, 31, 32, 33, 34, 35, 36, 37, 38, 39, 40, 41, 42, 43, 44, 45, 46]), (16, [0, 2, 4, 6, 7, 8, 9, 21, 22, 23, 24, 25, 26, 27, 28, 29, 30, 31, 32, 33, 34, 35, 36, 37, 38, 39, 40, 41, 42, 43, 44, 45, 46]), (17, [0, 2, 4, 6, 8, 9, 21, 22, 23, 24, 25, 26, 27, 28, 29, 30, 31, 32, 33, 34, 35, 36, 37, 38, 39, 40, 41, 42, 43, 44, 45, 46, 49]), (18, [2, 3])]
theorem Bs : lookK B9 0 = some [0, 2, 8, 9, 21, 22, 23, 24, 25, 26, 27, 28, 29, 30, 31, 32, 33, 34, 35, 36, 37, 38, 39, 40, 41, 42, 43, 44, 45, 46] ∧ lookK B9 1 = some [0, 2, 4, 8, 9, 21, 22, 23, 24, 25, 26, 27, 28, 29, 30, 31, 32, 33, 34, 35, 36, 37, 38, 39, 40, 41, 42, 43, 44, 45, 46] ∧ lookK B9 2 = some [0, 2, 4, 8, 9, 10, 21, 22, 23, 24, 25, 26, 27, 28, 29, 30, 31, 32, 33, 34, 35, 36, 37, 38, 39, 40, 41, 42, 43, 44, 45, 46] ∧ lookK B9 3 = some [0, 2, 4, 8, 9, 10, 11, 21, 22, 23, 24, 25, 26, 27, 28, 29, 30, 31, 32, 33, 34, 35, 36, 37, 38, 39, 40, 41, 42, 43, 44, 45, 46] ∧ lookK B9 4 = some [0, 2, 4, 5, 8, 9, 10, 21, 22, 23, 24, 25, 26, 27, 28, 29, 30, 31, 32, 33, 34, 35, 36, 37, 38, 39, 40, 41, 42, 43, 44, 45, 46] ∧ lookK B9 5 = some [0, 2, 4, 8, 9, 10, 21, 22, 23, 24, 25, 26, 27, 28, 29, 30, 31, 32, 33, 34, 35, 36, 37, 38, 39, 40, 41, 42, 43, 44, 45, 46] ∧ lookK B9 6 = some [0, 2, 4, 8, 9, 10, 21, 22, 23, 24, 25, 26, 27, 28, 29, 30, 31, 32, 33, 34, 35, 36, 37, 38, 39, 40, 41, 42, 43, 44, 45, 46] ∧ lookK B9 7 = some [0, 2, 4, 8, 9, 21, 22, 23, 24, 25, 26, 27, 28, 29, 30, 31, 32, 33, 34, 35, 36, 37, 38, 39, 40, 41, 42, 43, 44, 45, 46] ∧ lookK B9 8 = some [0, 2, 4, 6, 8, 9, 21, 22, 23, 24, 25, 26, 27, 28, 29, 30, 31, 32, 33, 34, 35, 36, 37, 38, 39, 40, 41, 42, 43, 44, 45, 46] ∧ lookK B9 9 = some [0, 2, 4, 6, 7, 8, 9, 21, 22, 23, 24, 25, 26, 27, 28, 29, 30, 31, 32, 33, 34, 35, 36, 37, 38, 39, 40, 41, 42, 43, 44, 45, 46] ∧ lookK B9 10 = some [0, 2, 4, 6, 7, 8, 9, 20, 21, 22, 23, 24, 25, 26, 27, 28, 29, 30, 31, 32, 33, 34, 35, 36, 37, 38, 39, 40, 41, 42, 43, 44, 45, 46] ∧ lookK B9 11 = some [0, 2, 4, 6, 7, 8, 9, 21, 27, 28, 29, 30, 31, 32, 33, 34, 35, 36, 37, 38, 39, 40, 41, 42, 43, 44, 45, 46] ∧ lookK B9 12 = some [0, 2, 4, 6, 7, 8, 9, 21, 22, 23, 24, 25, 26, 27, 28, 29, 30, 31, 32, 33, 34, 35, 36, 37, 38, 39, 40, 41, 42, 43, 44, 45, 46] ∧ lookK B9 13 = some [0, 2, 4, 6, 7, 8, 9, 21, 22, 23, 24, 25, 26, 27, 28, 29, 30, 43, 44, 45, 46] ∧ lookK B9 14 = some [0, 2, 4, 6, 7, 8, 9, 21, 22, 23, 24, 25, 26, 27, 28, 29, 30, 31, 32, 33, 34, 35, 36, 43, 44, 45, 46] ∧ lookK B9 15 = some [0, 2, 4, 6, 7, 8, 9, 21, 22, 23, 24, 25, 26, 27, 28, 29, 30, 31, 32, 33, 34, 35, 36, 37, 38, 39, 40, 41, 42, 43, 44, 45, 46] ∧ lookK B9 16 = some [0, 2, 4, 6, 7, 8, 9, 21, 22, 23, 24, 25, 26, 27, 28, 29, 30, 31, 32, 33, 34, 35, 36, 37, 38, 39, 40, 41, 42, 43, 44, 45, 46] ∧ lookK B9 17 = some [0, 2, 4, 6, 8, 9, 21, 22, 23, 24, 25, 26, 27, 28, 29, 30, 31, 32, 33, 34, 35, 36, 37, 38, 39, 40, 41, 42, 43, 44, 45, 46, 49] ∧ lookK B9 18 = some [2, 3] := ⟨rfl, rfl, rfl, rfl, rfl, rfl, rfl, rfl, rfl, rfl, rfl, rfl, rfl, rfl, rfl, rfl, rfl, rfl, rfl⟩
def aCL : List (Nat × List Nat) := [(0, [1]), (1, [2])]
theorem Bt : lookK aCL 0 = some [1] ∧ lookK aCL 1 = some [2] := ⟨rfl, rfl⟩
def aCM : List (Nat × List Nat) := [(0, [0, 1]), (1, [4])]
theorem Bu : lookK aCM 0 = some [0, 1] ∧ lookK aCM 1 = some [4] := ⟨rfl, rfl⟩
def aCN : List (Nat × List Nat) := [(0, [0, 1]), (1, [2])]
theorem Bv : lookK aCN 0 = some [0, 1] ∧ lookK aCN 1 = some [2] := ⟨rfl, rfl⟩
def eqN (n : Nat) (f g : Nat → Int) : Bool := (List.range n).all fun k => decide (f k = g k)
def C9 (l : List Stp) : Nat → FS → Option FS
 | 0, _ => none
 | n + 1, q => if eqN 41 (AC l q).far q.far then some (AC l q) else C9 l n (AC l q)
def q0 : FS := ⟨upd (fun _ => Au) 0 0, []⟩
theorem FC (f g : Nat → Int) : ∀ l : List Nat, BZ ((l.map fun j => D.int .i64 (f j)).map C.d) ((l.map fun j => D.int .i64 (g j)).map C.d) = some (l.all fun k => decide (f k = g k))
 | [] => rfl
 | a :: l => by
  have ih := FC f g l
  simp only [List.map_cons, BZ, eqC, if_true, ih, List.all_cons]
theorem F2 (n : Nat) (f g : Nat → Int) : BZ (Ac n f) (Ac n g) = some (eqN n f g) := FC f g _
structure OkS (s : Stp) : Prop where
 f0 : 0 ≤ s.fr
 f40 : s.fr ≤ 40
 t0 : 0 ≤ s.to
 t40 : s.to ≤ 40
 c0 : -1000000 ≤ s.co
 c1 : s.co ≤ 1000000
theorem FD {r : Rd} {st bk : Nat → Int} (hr : OkR r) : ∀ s ∈ Av r st bk, OkS s := fun s hs => by
 have := hr.p1
 have := hr.p40
 have := hr.i0
 have := hr.i5
 simp only [Av, List.mem_append, List.mem_flatMap, List.mem_range] at hs
 rcases hs with ⟨k, hk, h⟩ | ⟨i, hi, h⟩
 ·simp only [Ep, List.mem_cons] at h
  rcases h with rfl | h
  ·exact ⟨by simp; omega, by simp; omega, by simp, by simp; omega, by simp, by simp⟩
  ·split at h
   ·simp only [List.mem_cons, List.not_mem_nil, or_false] at h
    subst h
    exact ⟨by simp, by simp; omega, by simp; omega, by simp; omega, by simp, by simp⟩
   ·simp at h
 ·obtain ⟨_, a1, a2, a3, a4, a5⟩ := hr.post (i := (i : Int)) (by omega) (by omega)
  simp only [Ea] at h
  split at h
  ·rename_i hft
   simp only [List.mem_cons, List.not_mem_nil, or_false] at h
   subst h
   simp only [As, rTo] at hft
   simp only [A0]
   split
   ·exact ⟨by simp only [rTo]; omega, by simp only [rTo]; omega, by simp only [As]; omega, by simp only [As]; omega, by simp only []; omega, by simp only []; omega⟩
   ·exact ⟨by simp only [As]; omega, by simp only [As]; omega, by simp only [rTo]; omega, by simp only [rTo]; omega, by simp only []; omega, by simp only []; omega⟩
  ·simp at h
set_option maxHeartbeats 1000000 in
theorem aPP (f : Nat → Int) (s : Stp) (k : Nat) (hs : OkS s) (H : List AB) (hH : H.all (AB.low H.length) = true) (h7 : H[7]? = some (.cells (Ac 41 f))) (hk : H[k]? = some (.cells (sC s))) :
  Ae Tryz.prog 241 [.c (.ptr 7 0), .c (.ptr k 0)] H (one (I (wr .i64 (f s.fr.toNat + s.co))) H) := by
 refine acall_atE (bad := [1]) (kp := aCN) (X := tx) (nt := 10) (rs := [.tmp 2]) Tryz.func241 rfl rfl rfl rfl mo (by kernel_rfl) rfl hH (fun hf => ?_)
 have a0 := hs.f0
 have a1 := hs.f40
 have g := AY f (j := s.fr.toNat) (n := 41) (by omega)
 have gl := Ah 41 f
 have c1 : (decide ((0 : Int) ≤ s.fr) && decide (s.fr < ((41 : Nat) : Int))) = true := by simp; omega
 have c2 : decide (s.fr.toNat + 1 ≤ 41) = true := by simp; omega
 simp (maxSteps := 2000000) only [go_sem, reduceIte, Nat.reduceEqDiff, Nat.reduceAdd, Nat.reduceLeDiff, Nat.reduceBEq, Bs, Bt, Bu, Bv, h7, hk, sC, g, gl, c1, c2, Nat.mul_one]
 exact ⟨by simp; omega, by kernel_rfl, [], by simp⟩
set_option maxHeartbeats 1000000 in
theorem TF (f : Nat → Int) (s : Stp) (k : Nat) (old : Int) (hs : OkS s) (H : List AB) (hH : H.all (AB.low H.length) = true) (h7 : H[7]? = some (.cells (Ac 41 f))) (hk : H[k]? = some (.cells (sC s))) :
  Ae Tryz.prog 240 [I old, .c (.fn (.func 241) [.ptr 7 0, .ptr k 0])] H (one (I (min old (wr .i64 (f s.fr.toNat + s.co)))) H) := by
 refine acall_atE (bad := []) (kp := aCM) (X := tx) (nt := 9) (rs := [.tmp 4]) Tryz.func240 rfl rfl rfl rfl mo (by kernel_rfl) rfl hH (fun hf => ?_)
 simp (maxSteps := 2000000) only [go_sem, reduceIte, Nat.reduceEqDiff, Nat.reduceAdd, Bs, Bt, Bu, Bv]
 refine Az (aPP f s k hs H hH h7 hk) rfl rfl (by first | exact wk_refls _ | (repeat constructor)) ?_
 simp (maxSteps := 2000000) only [go_sem, reduceIte, Nat.reduceEqDiff, Bs, Bt, Bu, Bv, DX, DY]
 exact ⟨[], by simp⟩
theorem F3 (p : FP) (q : FS) (sta : LoopState) (T : List AB) (hT : T = [] ∨ ∃ a b, T = [AB.cells (pC a), AB.cells (sC b)]) : (HF p q sta ++ T).all (AB.low (HF p q sta ++ T).length) = true := by
 rcases hT with rfl | ⟨a, b, rfl⟩
 ·rw [List.append_nil]; exact DA _ _ _ _ (Nat.le_refl _)
 ·exact aFh _ _ _ _ _
theorem TG (p : FP) (q : FS) (sta : LoopState) (T : List AB) (x : Stp) (hT : T = [] ∨ ∃ a b, T = [AB.cells (pC a), AB.cells (sC b)]) : (HF p q sta ++ T ++ [AB.cells (sC x)]).all (AB.low (HF p q sta ++ T ++ [AB.cells (sC x)]).length) = true := by
 rw [List.all_append, List.all_append, DA _ _ _ _ (by simp [HF])]
 rcases hT with rfl | ⟨a, b, rfl⟩ <;> rfl
theorem P0 (s : Stp) (es : List (Int × Stp)) : RB (.c (.d (.int .i64 s.to))) (.agg [.d (.int .i64 s.fr), .d (.int .i64 s.to), .d (.int .i64 s.co), .d (.int .i64 s.po)]) (byE es) ((fnd s.to es 0).map fun p => (p.1, sV p.2)) = byE (DJ s.to s es) := aFe s.to s es
theorem F4 (k : Int) (es : List (Int × Stp)) : By (.c (.d (.int .i64 k))) (byE es) 0 = some ((fnd k es 0).map fun p => (p.1, sV p.2)) := PZ k es 0
theorem R9 (pre : List Stp) (x : Stp) (q : FS) : AC (pre ++ [x]) q = Br (AC pre q) x := by rw [KF]; rfl
theorem FE {q : FS} {x : Stp} (h : q.far x.fr.toNat = Au) : Br q x = q := by simp [Br, h]
theorem II {n : Nat} {f g : Nat → Int} (h : ∀ j, j < n → f j = g j) : Ac n f = Ac n g := by
 have e : Ar n f = Ar n g := List.map_congr_left (fun j hj => by rw [h j (by simpa using hj)])
 rw [Ac, Ac, e]
theorem Er (f g : Nat → Int) : setMany (Ac 41 f) 0 (Ac 41 g) = Ac 41 g := by
 rw [Ca _ _ _ (by simp [Ah]), spl]
 simp [Ah, List.drop_eq_nil_of_le]
theorem aFj (z : List C) (g : Nat → Int) (h : z.length = 41) : setMany z 0 (Ac 41 g) = Ac 41 g := by
 rw [Ca _ _ _ (by simp [Ah, h]), spl]
 simp [Ah, List.drop_eq_nil_of_le, h]
theorem EM (f : Nat → Int) : (Ac 41 f).take 41 = Ac 41 f := List.take_of_length_le (by rw [Ah]; exact Nat.le_refl _)
def HB (p : FP) : List AB := [.gl 0 FB, .cells (AM p.r), .cells (AM p.r), .cells (C4 p.r p.st p.bk), .cells (Ac 41 p.z), .cells (Ac 41 p.f5)]
theorem Oq (p : FP) (n : Nat) : (HB p).all (AB.low n) = true := by
 simp only [HB, List.all_cons, List.all_nil, AB.low, AH, Do, CM, Bool.and_self]
theorem TH (p : FP) (a b : Nat → Int) (es : List (Int × Stp)) : (HB p ++ [AB.cells (Ac 41 a), AB.cells (Ac 41 b), AB.mp (byE es), AB.cells [.mp 8]]).all (AB.low (HB p ++ [AB.cells (Ac 41 a), AB.cells (Ac 41 b), AB.mp (byE es), AB.cells [.mp 8]]).length) = true := by
 rw [List.all_append, Oq]
 simp only [List.all_cons, List.all_nil, AB.low, AH, F1, Bool.and_self, Bool.true_and, Bool.and_true]
 rfl
set_option maxHeartbeats 1000000 in
theorem aFk (H : List AB) : Ae Tryz.prog 239 [.c (.ptr 3 0)] H (one (.c (.fn (.func 312) [.ptr H.length 0])) (H ++ [.cells [.ptr 3 0]])) := by
 refine acall_fitE (bad := []) (kp := aCL) (X := tx) (nt := 4) (rs := [.tmp 2]) Tryz.func239 rfl rfl rfl rfl mo (by kernel_rfl) (fun hf => ?_)
 simp (maxSteps := 2000000) only [go_sem, reduceIte, Nat.reduceEqDiff, Nat.reduceAdd, Bs, Bt, Bu, Bv]
 exact ⟨rfl, rfl⟩
set_option maxHeartbeats 8000000 in
theorem aHO (p : FP) (qf : FS) (n : Nat) (hr : OkR p.r) (hst : ∀ i, 0 ≤ p.st i ∧ p.st i ≤ 1) (hf : C9 (Av p.r p.st p.bk) n q0 = some qf) :
  Ae Tryz.prog 161 [.c (.ptr 3 0)] (HB p) (one (.tup [.agg (Ac 41 qf.far), .c (.mp 8)]) (HB p ++ [.cells (Ac 41 qf.far), .cells (Ac 41 qf.far), .mp (byE qf.by')])) := by
 refine Ae.drop2 (by simp [HB]) rfl (by rw [List.all_append, Oq]; simp only [List.all_cons, List.all_nil, AB.low, AH, F1, Bool.and_self]) ?_
 refine acall_fitE (bad := [14, 18]) (kp := B9) (X := tx) (nt := 52) (rs := [.cell 2 162, .tmp 3]) Tryz.func161 rfl rfl rfl rfl mo (by kernel_rfl) (fun hf' => ?_)
 have hz : List.replicate 41 (C.d (D.int .i64 0)) = Ac 41 zf := by rfl
 simp (maxSteps := 2000000) only [go_sem, reduceIte, Nat.reduceEqDiff, Nat.reduceAdd, Nat.reduceBEq, Bs, Bt, Bu, Bv, HB, hz]
 refine goE_loop (bad := [14, 18]) (kp := B9) (fun k : Nat => { slots := [(0, .c (.ptr 3 0)), (2, .c (.ptr 6 0)), (4, .c (.ptr 7 0)), (10, I k)], heap := HB p ++ [.cells (Ac 41 zf), .cells (Ac 41 (fun j => if j < k then Au else 0))], marks := [] }) (fun k => k ≤ 41) (fun k => 41 - k) 0 mo (by kernel_rfl) ?_ (Nat.zero_le _) ?_
 ·refine ent_weaken [] (by simp only [HB, List.append_nil]; rfl) rfl (show 6 ≤ 8 by decide) (by rw [List.all_append, Oq]; simp only [List.all_cons, List.all_nil, AB.low, AH, Bool.and_self]) rfl ?_
  simp (maxSteps := 2000000) only [go_sem, reduceIte, Nat.reduceEqDiff, Nat.reduceAdd, Nat.reduceLT, Bs, Bt, Bu, Bv, HB]
  all_goals first | exact .refl _ | exact ⟨.refl _, .refl _⟩ | exact ⟨.refl _, .refl _, .refl _⟩ | exact ⟨.refl _, _, rfl⟩ | exact ⟨_, rfl⟩ | exact ⟨.refl _, [], by simp⟩ | exact ⟨[], by simp⟩
 rintro k hk
 simp (maxSteps := 2000000) only [go_sem, reduceIte, Nat.reduceEqDiff, Nat.reduceAdd, Nat.reduceBEq, Bs, Bt, Bu, Bv, HB]
 refine goE_if (fun h => ?_) (fun h => ?_)
 ·have hlt : k < 41 := by simp at h; omega
  have c1 : (decide ((0 : Int) ≤ (k : Int)) && decide ((k : Int) < ((41 : Nat) : Int))) = true := by simp; omega
  have c2 : decide (k + 1 ≤ 41) = true := by simp; omega
  have c3 : decide (k ≤ 40) = true := by simp; omega
  have gl := Ah 41 (fun j => if j < k then Au else 0)
  simp (maxSteps := 2000000) only [go_sem, reduceIte, Nat.reduceEqDiff, Nat.reduceAdd, Nat.reduceLeDiff, Nat.reduceBEq, Bs, Bt, Bu, Bv, c1, c2, c3, gl, Nat.mul_one, An hlt (by decide)]
  refine ⟨k + 1, hlt, by omega, ?_⟩
  refine ent_weaken [] (by
   have e : Ac 41 (upd (fun j => if j < k then Au else 0) k 1125899906842624) = Ac 41 (fun j => if j < k + 1 then Au else 0) := II fun j hj => by
    simp only [upd]
    by_cases e : j = k
    ·subst e; simp [Au]
    ·have : j < k + 1 ↔ j < k := by omega
     simp [e, this]
   rw [BK, e]; rfl) rfl (show 6 ≤ 8 by decide) (by simp only [List.all_cons, List.all_nil, AB.low, AH, Do, CM, Bool.and_self]) rfl ?_
  simp (maxSteps := 2000000) only [go_sem, reduceIte, Nat.reduceEqDiff, Nat.reduceAdd, Nat.reduceLT, Bs, Bt, Bu, Bv]
 have hk' : k = 41 := by simp at h; omega
 subst hk'
 have gl := Ah 41 (fun j => if j < 41 then Au else 0)
 simp (maxSteps := 2000000) only [go_sem, reduceIte, Nat.reduceEqDiff, Nat.reduceAdd, Nat.reduceLeDiff, Nat.reduceBEq, Nat.reduceMul, Nat.reduceSub, Int.reduceLE, Int.reduceToNat, Bs, Bt, Bu, Bv, gl]
 refine ⟨by decide, ?_⟩
 refine goE_loop (bad := [14, 18]) (kp := B9) (fun a : Nat × FS => { slots := [(0, .c (.ptr 3 0)), (2, .c (.ptr 6 0)), (4, .c (.ptr 7 0)), (6, .c (.ptr 9 0))], heap := HB p ++ [.cells (Ac 41 zf), .cells (Ac 41 a.2.far), .mp (byE a.2.by'), .cells [.mp 8]], marks := [] }) (fun a => C9 (Av p.r p.st p.bk) a.1 a.2 = some qf) (fun a => a.1) (n, q0) mo (by kernel_rfl) ?_ hf ?_
 ·refine ent_weaken [] (by
   have e : Ac 41 (upd (fun j => if j < 41 then Au else 0) 0 0) = Ac 41 q0.far := II fun j hj => by simp [upd, q0, hj]
   rw [BK, e]; rfl) rfl (show 6 ≤ 10 by decide) (TH p zf q0.far q0.by') rfl ?_
  simp (maxSteps := 2000000) only [go_sem, reduceIte, Nat.reduceEqDiff, Nat.reduceAdd, Nat.reduceLT, Bs, Bt, Bu, Bv, HB]
 clear h hf hk gl
 rintro ⟨n, q⟩ hf
 cases n with
 | zero => cases hf
 | succ n =>
 have gl := Ah 41 q.far
 have gl0 := Ah 41 zf
 simp (maxSteps := 2000000) only [go_sem, reduceIte, Nat.reduceEqDiff, Nat.reduceAdd, Nat.reduceBEq, Bs, Bt, Bu, Bv, HB, gl, gl0, EM, hz, Er]
 refine Az (aFk _) rfl rfl (by first | exact wk_refls _ | (repeat constructor)) ?_
 simp (maxSteps := 2000000) only [go_sem, reduceIte, Nat.reduceEqDiff, Nat.reduceAdd, Bs, Bt, Bu, Bv]
 refine AWP.ent (s' := { slots := slF, heap := HB p ++ [AB.cells (Ac 41 zf), AB.cells (Ac 41 q.far), AB.mp (byE q.by'), AB.cells [.mp 8], AB.cells (Ac 41 q.far), AB.cells [.ptr 3 0]], marks := [] }) ?_ ?_
 ·refine ent_weaken [] (by simp only [HB, List.append_nil]; first | rfl | (rw [aFj _ _ rfl]; rfl)) rfl (show 6 ≤ 12 by decide) (by
   rw [List.all_append, Oq]
   simp only [List.all_cons, List.all_nil, AB.low, AH, F1, Bool.and_self, Bool.true_and, Bool.and_true]
   rfl) rfl ?_
  simp (maxSteps := 2000000) only [go_sem, reduceIte, Nat.reduceEqDiff, Nat.reduceAdd, Nat.reduceLT, Bs, Bt, Bu, Bv, slF, HB]
 refine Ku (fun A Bd hA hB => ?_)
 refine D8 (gf := 312) (caps := [.ptr 11 0]) rfl rfl (show 6 ≤ 12 by decide) rfl ?_
 refine Ae.mono (aFi ⟨p.r, p.st, p.bk, p.z, p.f5, q.far, A, Bd⟩ q hr hst (fun pre x suf T hall hT => ?_)) ?_
 ·have hx : OkS x := FD hr x (by rw [hall]; simp)
  rw [R9]
  generalize AC pre q = q1
  generalize hp' : (⟨p.r, p.st, p.bk, p.z, p.f5, q.far, A, Bd⟩ : FP) = p'
  have hA' := (congrArg FP.A hp'.symm).trans hA
  have hB' := (congrArg FP.Bd hp'.symm).trans hB
  have a0 := hx.f0
  have a1 := hx.f40
  have a2 := hx.t0
  have a3 := hx.t40
  have g1 := AY q1.far (j := x.fr.toNat) (n := 41) (by omega)
  have g2 := AY q1.far (j := x.to.toNat) (n := 41) (by omega)
  have gl := Ah 41 q1.far
  have c1 : (decide ((0 : Int) ≤ x.fr) && decide (x.fr < ((41 : Nat) : Int))) = true := by simp; omega
  have c2 : decide (x.fr.toNat + 1 ≤ 41) = true := by simp; omega
  have c2' : decide (x.fr.toNat ≤ 40) = true := by simp; omega
  have c3 : (decide ((0 : Int) ≤ x.to) && decide (x.to < ((41 : Nat) : Int))) = true := by simp; omega
  have c4 : decide (x.to.toNat + 1 ≤ 41) = true := by simp; omega
  have c4' : decide (x.to.toNat ≤ 40) = true := by simp; omega
  rcases hT with rfl | ⟨a, b, rfl⟩
  ·refine Wn (bad := [14]) (kp := B9) (X := tx) mo rfl hA' hB' rfl rfl (by kernel_rfl) (by kernel_rfl) (fun lp => ?_)
   simp (maxSteps := 2000000) only [go_sem, reduceIte, Nat.reduceEqDiff, Nat.reduceAdd, Nat.reduceBEq, Bs, Bt, Bu, Bv, DD, HF, slF, sV, sC, pC]
   refine ⟨_, rfl, ?_⟩
   by_cases hn : q1.far x.fr.toNat = 1125899906842624
   ·have hre : Br q1 x = q1 := FE hn
    rw [hre]
    simp (maxSteps := 2000000) only [go_sem, reduceIte, Nat.reduceEqDiff, Nat.reduceAdd, Nat.reduceLeDiff, Nat.reduceBEq, Bs, Bt, Bu, Bv, g1, gl, c1, c2, c2', Nat.mul_one, hn]
    refine ⟨{ slots := [], heap := HF p' q1 .busy ++ [], marks := [] }, ent_weaken [AB.cells (sC x)] rfl rfl (Nat.le_refl _) (F3 _ _ _ _ (.inl rfl)) rfl trivial, _, rfl, rfl, rfl⟩
   ·simp (maxSteps := 2000000) only [go_sem, reduceIte, Nat.reduceEqDiff, Nat.reduceAdd, Nat.reduceLeDiff, Nat.reduceBEq, Bs, Bt, Bu, Bv, g1, gl, c1, c2, c2', g2, c3, c4, c4', Nat.mul_one, hn]
    have hl := TF q1.far x 14 (q1.far x.to.toNat) hx (HF p' q1 .busy ++ [] ++ [AB.cells (sC x)]) (TG _ _ _ _ _ (.inl rfl)) rfl rfl
    simp only [HF, slF, sC, pC, List.cons_append, List.nil_append] at hl
    have gl3 := fun v => Ah 41 (upd q1.far x.to.toNat v)
    have g3 := fun v => AY (upd q1.far x.to.toNat v) (j := x.to.toNat) (n := 41) (by omega)
    refine de_at (hl) rfl rfl (by first | exact wk_refls _ | (repeat constructor)) ?_
    simp (maxSteps := 2000000) only [go_sem, reduceIte, Nat.reduceEqDiff, Nat.reduceAdd, Nat.reduceLT, Nat.reduceLeDiff, Nat.reduceBEq, Bs, Bt, Bu, Bv, c3, gl, c4, c4', Nat.mul_one, BK]
    refine ⟨AF (by kernel_rfl), ?_⟩
    by_cases hlt : min (q1.far x.to.toNat) (wr .i64 (q1.far x.fr.toNat + x.co)) < q1.far x.to.toNat
    ·have hrel : Br q1 x = ⟨upd q1.far x.to.toNat (min (q1.far x.to.toNat) (wr .i64 (q1.far x.fr.toNat + x.co))), DJ x.to x q1.by'⟩ := by
      rw [Br, if_neg (show ¬ q1.far x.fr.toNat = Au from hn), if_pos hlt]
     rw [hrel]
     simp (maxSteps := 2000000) only [go_sem, reduceIte, Nat.reduceEqDiff, Nat.reduceAdd, Nat.reduceLeDiff, Nat.reduceBEq, Bs, Bt, Bu, Bv, c3, gl3, g3, c4, c4', Nat.mul_one, Ai, hlt, F4, P0, Cn]
     refine ⟨{ slots := [], heap := HF p' ⟨upd q1.far x.to.toNat (min (q1.far x.to.toNat) (wr .i64 (q1.far x.fr.toNat + x.co))), DJ x.to x q1.by'⟩ .busy ++ [], marks := [] }, ent_weaken [AB.cells (sC x)] rfl rfl (Nat.le_refl _) (F3 _ _ _ _ (.inl rfl)) rfl trivial, _, rfl, rfl, rfl⟩
    ·have hrel : Br q1 x = ⟨upd q1.far x.to.toNat (min (q1.far x.to.toNat) (wr .i64 (q1.far x.fr.toNat + x.co))), q1.by'⟩ := by
      rw [Br, if_neg (show ¬ q1.far x.fr.toNat = Au from hn), if_neg hlt]
     rw [hrel]
     simp (maxSteps := 2000000) only [go_sem, reduceIte, Nat.reduceLeDiff, Bs, Bt, Bu, Bv, c3, gl3, g3, c4, c4', Nat.mul_one, Ai, hlt]
     refine ⟨{ slots := [], heap := HF p' ⟨upd q1.far x.to.toNat (min (q1.far x.to.toNat) (wr .i64 (q1.far x.fr.toNat + x.co))), q1.by'⟩ .busy ++ [], marks := [] }, ent_weaken [AB.cells (sC x)] rfl rfl (Nat.le_refl _) (F3 _ _ _ _ (.inl rfl)) rfl trivial, _, rfl, rfl, rfl⟩
  ·refine Wn (bad := [14]) (kp := B9) (X := tx) mo rfl hA' hB' rfl rfl (by kernel_rfl) (by kernel_rfl) (fun lp => ?_)
   simp (maxSteps := 2000000) only [go_sem, reduceIte, Nat.reduceEqDiff, Nat.reduceAdd, Nat.reduceBEq, Bs, Bt, Bu, Bv, DD, HF, slF, sV, sC, pC]
   refine ⟨_, rfl, ?_⟩
   by_cases hn : q1.far x.fr.toNat = 1125899906842624
   ·have hre : Br q1 x = q1 := FE hn
    rw [hre]
    simp (maxSteps := 2000000) only [go_sem, reduceIte, Nat.reduceEqDiff, Nat.reduceAdd, Nat.reduceLeDiff, Nat.reduceBEq, Bs, Bt, Bu, Bv, g1, gl, c1, c2, c2', Nat.mul_one, hn]
    refine ⟨{ slots := [], heap := HF p' q1 .busy ++ [AB.cells (pC a), AB.cells (sC b)], marks := [] }, ent_weaken [AB.cells (sC x)] rfl rfl (Nat.le_refl _) (F3 _ _ _ _ (.inr ⟨_, _, rfl⟩)) rfl trivial, _, rfl, rfl, rfl⟩
   ·simp (maxSteps := 2000000) only [go_sem, reduceIte, Nat.reduceEqDiff, Nat.reduceAdd, Nat.reduceLeDiff, Nat.reduceBEq, Bs, Bt, Bu, Bv, g1, gl, c1, c2, c2', g2, c3, c4, c4', Nat.mul_one, hn]
    have hl := TF q1.far x 16 (q1.far x.to.toNat) hx (HF p' q1 .busy ++ [AB.cells (pC a), AB.cells (sC b)] ++ [AB.cells (sC x)]) (TG _ _ _ _ _ (.inr ⟨_, _, rfl⟩)) rfl rfl
    simp only [HF, slF, sC, pC, List.cons_append, List.nil_append] at hl
    have gl3 := fun v => Ah 41 (upd q1.far x.to.toNat v)
    have g3 := fun v => AY (upd q1.far x.to.toNat v) (j := x.to.toNat) (n := 41) (by omega)
    refine de_at (hl) rfl rfl (by first | exact wk_refls _ | (repeat constructor)) ?_
    simp (maxSteps := 2000000) only [go_sem, reduceIte, Nat.reduceEqDiff, Nat.reduceAdd, Nat.reduceLT, Nat.reduceLeDiff, Nat.reduceBEq, Bs, Bt, Bu, Bv, c3, gl, c4, c4', Nat.mul_one, BK]
    refine ⟨AF (by kernel_rfl), ?_⟩
    by_cases hlt : min (q1.far x.to.toNat) (wr .i64 (q1.far x.fr.toNat + x.co)) < q1.far x.to.toNat
    ·have hrel : Br q1 x = ⟨upd q1.far x.to.toNat (min (q1.far x.to.toNat) (wr .i64 (q1.far x.fr.toNat + x.co))), DJ x.to x q1.by'⟩ := by
      rw [Br, if_neg (show ¬ q1.far x.fr.toNat = Au from hn), if_pos hlt]
     rw [hrel]
     simp (maxSteps := 2000000) only [go_sem, reduceIte, Nat.reduceEqDiff, Nat.reduceAdd, Nat.reduceLeDiff, Nat.reduceBEq, Bs, Bt, Bu, Bv, c3, gl3, g3, c4, c4', Nat.mul_one, Ai, hlt, F4, P0, Cn]
     refine ⟨{ slots := [], heap := HF p' ⟨upd q1.far x.to.toNat (min (q1.far x.to.toNat) (wr .i64 (q1.far x.fr.toNat + x.co))), DJ x.to x q1.by'⟩ .busy ++ [AB.cells (pC a), AB.cells (sC b)], marks := [] }, ent_weaken [AB.cells (sC x)] rfl rfl (Nat.le_refl _) (F3 _ _ _ _ (.inr ⟨_, _, rfl⟩)) rfl trivial, _, rfl, rfl, rfl⟩
    ·have hrel : Br q1 x = ⟨upd q1.far x.to.toNat (min (q1.far x.to.toNat) (wr .i64 (q1.far x.fr.toNat + x.co))), q1.by'⟩ := by
      rw [Br, if_neg (show ¬ q1.far x.fr.toNat = Au from hn), if_neg hlt]
     rw [hrel]
     simp (maxSteps := 2000000) only [go_sem, reduceIte, Nat.reduceLeDiff, Bs, Bt, Bu, Bv, c3, gl3, g3, c4, c4', Nat.mul_one, Ai, hlt]
     refine ⟨{ slots := [], heap := HF p' ⟨upd q1.far x.to.toNat (min (q1.far x.to.toNat) (wr .i64 (q1.far x.fr.toNat + x.co))), q1.by'⟩ .busy ++ [AB.cells (pC a), AB.cells (sC b)], marks := [] }, ent_weaken [AB.cells (sC x)] rfl rfl (Nat.le_refl _) (F3 _ _ _ _ (.inr ⟨_, _, rfl⟩)) rfl trivial, _, rfl, rfl, rfl⟩
 ·rintro _ H2 rfl
  refine ⟨fun h => (by cases h), rfl, rfl, ?_⟩
  have gl2 := Ah 41 (AC (Av p.r p.st p.bk) q).far
  simp (maxSteps := 2000000) only [go_sem, reduceIte, Nat.reduceEqDiff, Nat.reduceAdd, Nat.reduceBEq, Bs, Bt, Bu, Bv, HF, HB, slF, gl, gl2, EM, F2, Ah]
  refine goE_if (fun h => ?_) (fun h => ?_)
  ·have hq : AC (Av p.r p.st p.bk) q = qf := by
    rw [C9, if_pos h] at hf
    exact Option.some.inj hf
   simp (maxSteps := 2000000) only [go_sem, reduceIte, Nat.reduceEqDiff, Nat.reduceAdd, Nat.reduceLT, Nat.reduceLeDiff, Nat.reduceBEq, Bs, Bt, Bu, Bv, EM, Ah, Er, hq]
   exact ⟨AF (by kernel_rfl), _, rfl⟩
  ·simp (maxSteps := 2000000) only [go_sem, Bs, Bt, Bu, Bv]
   rw [C9, h] at hf
   simp only [Bool.false_eq_true, if_false] at hf
   refine ⟨(n, AC (Av p.r p.st p.bk) q), hf, Nat.lt_succ_self n, ?_⟩
   refine ent_weaken [AB.cells (Ac 41 q.far), AB.cells [.ptr 3 0], AB.gone, AB.lp { state := .exhausted, pend := none, slots := slF, nt := 52, ps := #[21], assign := A, body := Bd, D := 12 }] rfl rfl (show 6 ≤ 10 by decide) (TH p zf _ _) rfl ?_
   simp (maxSteps := 2000000) only [go_sem, reduceIte, Nat.reduceEqDiff, Nat.reduceAdd, Nat.reduceLT, Bs, Bt, Bu, Bv]
end Go.Proofs.YtfgdbeijjbijnaaGreatDoor
set_option linter.unusedSimpArgs false
set_option linter.unusedVariables false
set_option maxRecDepth 100000
namespace Go.Proofs.YtfgdbeijjbijnaaGreatDoor
open Go Go.Abs Go.Proofs
def KG : List (Nat × List Nat) := [(0, [0, 3]), (1, []), (2, [0, 3, 15]), (3, []), (4, [0, 3, 33]), (5, [])]
theorem TJ : lookK KG 0 = some [0, 3] ∧ lookK KG 1 = some [] ∧ lookK KG 2 = some [0, 3, 15] ∧ lookK KG 3 = some [] ∧ lookK KG 4 = some [0, 3, 33] ∧ lookK KG 5 = some [] := ⟨rfl, rfl, rfl, rfl, rfl, rfl⟩
theorem aFl (r : Rd) (st bk : Nat → Int) {i : Nat} (h : i < 24) (v : Int) : (C4 r st bk).set (4 + i) (.d (.int .i64 v)) = C4 r (upd st i v) bk := by
 have h1 : (Ar 24 st ++ Ar 40 bk).set i (.int .i64 v) = Ar 24 (upd st i v) ++ Ar 40 bk := by
  rw [List.set_append_left _ _ (by rw [A7]; exact h), F0]
 rw [Nat.add_comm 4 i]
 show _ :: _ :: _ :: _ :: ((Ar 24 st ++ Ar 40 bk).map C.d).set i _ = _
 rw [← List.map_set, h1]; rfl
theorem TK (r : Rd) (st bk : Nat → Int) {i : Nat} (h : i < 40) (v : Int) : (C4 r st bk).set (28 + i) (.d (.int .i64 v)) = C4 r st (upd bk i v) := by
 have h1 : (Ar 24 st ++ Ar 40 bk).set (24 + i) (.int .i64 v) = Ar 24 st ++ Ar 40 (upd bk i v) := by
  rw [List.set_append_right _ _ (by rw [A7]; omega), A7, Nat.add_sub_cancel_left, F0]
 rw [show 28 + i = (24 + i) + 4 by omega]
 show _ :: _ :: _ :: _ :: ((Ar 24 st ++ Ar 40 bk).map C.d).set (24 + i) _ = _
 rw [← List.map_set, h1]; rfl
def Bw (s : Stp) (w : (Nat → Int) × (Nat → Int)) : (Nat → Int) × (Nat → Int) :=
 if s.po ≠ -1 then (upd w.1 s.po.toNat (wr .i64 (1 - w.1 s.po.toNat)), w.2)
 else if s.to < s.fr then (w.1, upd w.2 s.to.toNat (wr .i64 (w.2 s.to.toNat + 1)))
 else (w.1, upd w.2 s.fr.toNat (wr .i64 (w.2 s.fr.toNat - 1)))
structure OkT (s : Stp) : Prop where
 ok : OkS s
 post : s.po ≠ -1 → 0 ≤ s.po ∧ s.po < 24
 back : s.po = -1 → (s.to < s.fr → s.to < 40) ∧ (¬ s.to < s.fr → s.fr < 40)
def HN (p : FP) (T : List AB) : List AB := [.gl 0 FB, .cells (AM p.r), .cells (AM p.r), .cells (C4 p.r p.st p.bk)] ++ T
set_option maxHeartbeats 4000000 in
theorem aHP (p : FP) (T : List AB) (s : Stp) (hs : OkT s) (hT : ∀ st bk, (HN { p with st := st, bk := bk } T).all (AB.low (HN p T).length) = true) :
  Ae Tryz.prog 162 [.c (.ptr 3 0), sV s] (HN p T) (one (.tup []) (HN { p with st := (Bw s (p.st, p.bk)).1, bk := (Bw s (p.st, p.bk)).2 } T)) := by
 refine Ae.drop2 (by simp [HN]) rfl (by simpa [HN] using hT _ _) ?_
 refine acall_fitE (bad := [3, 5, 1]) (kp := KG) (X := tx) (nt := 50) (rs := []) Tryz.func162 rfl rfl rfl rfl mo (by kernel_rfl) (fun hf' => ?_)
 have nl := EK p.r p.st p.bk
 have lc : ∀ x : AB, (T ++ [x])[T.length]? = some x := fun x => List.getElem?_concat_length
 simp (maxSteps := 2000000) only [go_sem, reduceIte, Nat.reduceEqDiff, Nat.reduceAdd, Nat.reduceBEq, Int.reduceNeg, TJ, HN, sV, sC, lc]
 by_cases h1 : s.po = -1
 ·obtain ⟨hb1, hb2⟩ := hs.back h1
  have a0 := hs.ok.f0
  have a2 := hs.ok.t0
  by_cases h2 : s.to < s.fr
  ·have hlt := hb1 h2
   have nb := aHN p.r p.st p.bk (i := s.to.toNat) (by omega)
   have nset := TK p.r p.st p.bk (i := s.to.toNat) (by omega)
   have c1 : decide (28 + s.to.toNat + 1 ≤ 68) = true := by simp; omega
   have c1' : decide (28 + s.to.toNat ≤ 67) = true := by simp; omega
   have c2 : (decide ((0 : Int) ≤ s.to) && decide (s.to < ((40 : Nat) : Int))) = true := by simp; omega
   simp (maxSteps := 2000000) only [go_sem, reduceIte, Nat.reduceEqDiff, Nat.reduceAdd, Nat.reduceLeDiff, Nat.reduceBEq, Int.reduceNeg, TJ, h1, h2, nb, nl, nset, c1, c1', c2, Nat.mul_one, lc]
   have e : Bw s (p.st, p.bk) = (p.st, upd p.bk s.to.toNat (wr .i64 (p.bk s.to.toNat + 1))) := by simp [Bw, h1, h2]
   rw [e]
   exact ⟨AF (by kernel_rfl), [AB.cells (sC s)], by simp [HN, sC, h1]⟩
  ·have hlt := hb2 h2
   have nb := aHN p.r p.st p.bk (i := s.fr.toNat) (by omega)
   have nset := TK p.r p.st p.bk (i := s.fr.toNat) (by omega)
   have c1 : decide (28 + s.fr.toNat + 1 ≤ 68) = true := by simp; omega
   have c1' : decide (28 + s.fr.toNat ≤ 67) = true := by simp; omega
   have c2 : (decide ((0 : Int) ≤ s.fr) && decide (s.fr < ((40 : Nat) : Int))) = true := by simp; omega
   simp (maxSteps := 2000000) only [go_sem, reduceIte, Nat.reduceEqDiff, Nat.reduceAdd, Nat.reduceLeDiff, Nat.reduceBEq, Int.reduceNeg, TJ, h1, h2, nb, nl, nset, c1, c1', c2, Nat.mul_one, lc]
   have e : Bw s (p.st, p.bk) = (p.st, upd p.bk s.fr.toNat (wr .i64 (p.bk s.fr.toNat - 1))) := by simp [Bw, h1, h2]
   rw [e]
   exact ⟨AF (by kernel_rfl), [AB.cells (sC s)], by simp [HN, sC, h1]⟩
 ·obtain ⟨hp0, hp1⟩ := hs.post h1
  have nb := aFf p.r p.st p.bk (i := s.po.toNat) (by omega)
  have nset := aFl p.r p.st p.bk (i := s.po.toNat) (by omega)
  have c1 : decide (4 + s.po.toNat + 1 ≤ 68) = true := by simp; omega
  have c1' : decide (4 + s.po.toNat ≤ 67) = true := by simp; omega
  have c2 : (decide ((0 : Int) ≤ s.po) && decide (s.po < ((24 : Nat) : Int))) = true := by simp; omega
  simp (maxSteps := 2000000) only [go_sem, reduceIte, Nat.reduceEqDiff, Nat.reduceAdd, Nat.reduceLeDiff, Nat.reduceBEq, Int.reduceNeg, TJ, h1, nb, nl, nset, c1, c1', c2, Nat.mul_one, lc]
  have e : Bw s (p.st, p.bk) = (upd p.st s.po.toNat (wr .i64 (1 - p.st s.po.toNat)), p.bk) := by simp [Bw, h1]
  rw [e]
  exact ⟨AF (by kernel_rfl), [AB.cells (sC s)], by simp [HN, sC]⟩
theorem UX {r : Rd} {st bk : Nat → Int} (hr : OkR r) : ∀ s ∈ Av r st bk, OkT s := fun s hs => by
 have ho := FD hr s hs
 have := hr.p1
 have := hr.p40
 have := hr.len
 simp only [Av, List.mem_append, List.mem_flatMap, List.mem_range] at hs
 rcases hs with ⟨k, hk, h⟩ | ⟨i, hi, h⟩
 ·simp only [Ep, List.mem_cons] at h
  rcases h with rfl | h
  ·exact ⟨ho, fun h => absurd rfl h, fun _ => ⟨fun _ => by simp; omega, fun h => absurd (show (k : Int) < (k : Int) + 1 by omega) h⟩⟩
  ·split at h
   ·simp only [List.mem_cons, List.not_mem_nil, or_false] at h
    subst h
    exact ⟨ho, fun h => absurd rfl h, fun _ => ⟨fun h => absurd h (by simp; omega), fun _ => by simp; omega⟩⟩
   ·simp at h
 ·have hpo : s.po = (i : Int) := by
   simp only [Ea] at h
   split at h
   ·simp only [List.mem_cons, List.not_mem_nil, or_false] at h
    subst h
    simp only [A0]
    split <;> rfl
   ·simp at h
  exact ⟨ho, fun _ => by omega, fun h => by omega⟩
theorem TL {k : Int} : ∀ {es : List (Int × Stp)} {n i : Nat} {s : Stp}, fnd k es n = some (i, s) → (k, s) ∈ es
 | [], n, i, s, h => by cases h
 | e :: es, n, i, s, h => by
  simp only [fnd] at h
  split at h
  ·rename_i hk
   simp only [Option.some.injEq, Prod.mk.injEq] at h
   obtain ⟨_, rfl⟩ := h
   subst hk; simp
  ·exact List.mem_cons_of_mem _ (TL h)
theorem aCO {k : Int} {s : Stp} {es : List (Int × Stp)} {e : Int × Stp} (h : e ∈ DJ k s es) : e = (k, s) ∨ e ∈ es := by
 unfold DJ at h
 split at h
 ·rcases List.mem_or_eq_of_mem_set h with h | h
  ·exact .inr h
  ·exact .inl h
 ·rw [List.mem_append] at h
  rcases h with h | h
  ·exact .inr h
  ·exact .inl (by simpa using h)
theorem aCP {k : Int} {es : List (Int × Stp)} {e : Int × Stp} (h : e ∈ Fx k es) : e ∈ es := by
 unfold Fx at h
 split at h
 ·exact List.mem_of_mem_eraseIdx h
 ·exact h
theorem aCQ {P : Stp → Prop} {q : FS} {s : Stp} (hs : P s) (h : ∀ e ∈ q.by', P e.2) : ∀ e ∈ (Br q s).by', P e.2 := by
 unfold Br
 split
 ·exact h
 ·intro e he
  simp only at he
  split at he
  ·rcases aCO he with rfl | he
   ·exact hs
   ·exact h e he
  ·exact h e he
theorem Ik {P : Stp → Prop} : ∀ {l : List Stp} {q : FS}, (∀ s ∈ l, P s) → (∀ e ∈ q.by', P e.2) → ∀ e ∈ (AC l q).by', P e.2
 | [], q, _, h => h
 | s :: l, q, hl, h => Ik (l := l) (q := Br q s) (fun x hx => hl x (by simp [hx])) (aCQ (hl s (by simp)) h)
theorem P1 {P : Stp → Prop} {l : List Stp} (hl : ∀ s ∈ l, P s) : ∀ {n : Nat} {q q' : FS}, C9 l n q = some q' → (∀ e ∈ q.by', P e.2) → ∀ e ∈ q'.by', P e.2
 | 0, q, q', h, _ => by cases h
 | n + 1, q, q', h, hq => by
  rw [C9] at h
  split at h
  ·cases h; exact Ik hl hq
  ·exact P1 hl h (Ik hl hq)
abbrev W := (Nat → Int) × (Nat → Int)
def EN : Nat → Int → List (Int × Stp) → W → Option (Bool × W)
 | 0, _, _, _ => none
 | n + 1, a, es, w => if a = 0 then some (true, w) else match fnd a es 0 with
  | none => some (false, w)
  | some (_, s) => EN n s.fr (Fx a es) (Bw s w)
def Eb (r : Rd) (m : Nat) : Nat → W → (Nat → Int) → Option (Bool × W × (Nat → Int))
 | 0, w, far => some (true, w, far)
 | k + 1, w, far => match C9 (Av r w.1 w.2) m q0 with
  | none => none
  | some q => if q.far r.pl.toNat = Au then some (false, w, zf) else match EN m r.pl q.by' w with
   | none => none
   | some (false, w') => some (false, w', zf)
   | some (true, w') => Eb r m k w' q.far
theorem P2 {s : Stp} {w : W} (h : ∀ i, 0 ≤ w.1 i ∧ w.1 i ≤ 1) : ∀ i, 0 ≤ (Bw s w).1 i ∧ (Bw s w).1 i ≤ 1 := fun i => by
 unfold Bw
 split
 ·simp only [upd]
  split
  ·have := h s.po.toNat
   rw [BQ (by omega) (by omega)]; omega
  ·exact h i
 ·split <;> exact h i
end Go.Proofs.YtfgdbeijjbijnaaGreatDoor
set_option linter.unusedSimpArgs false
set_option linter.unusedVariables false
set_option maxRecDepth 100000
namespace Go.Proofs.YtfgdbeijjbijnaaGreatDoor
open Go Go.Abs Go.Proofs
def RC (l : List Stp) (pi : Nat → Int) : Prop := ∀ s ∈ l, pi s.to.toNat ≤ pi s.fr.toNat + s.co
def rcn (f : Nat → Int) : Nat → Nat
 | 0 => 0
 | m + 1 => rcn f m + if f m = Au then 0 else 1
theorem Ot {f g : Nat → Int} : ∀ m, (∀ i, i < m → (f i = Au ↔ g i = Au)) → rcn f m = rcn g m
 | 0, _ => rfl
 | m + 1, h => by simp only [rcn, Ot m (fun i hi => h i (by omega)), h m (by omega)]
theorem TM {f : Nat → Int} {k : Nat} {v : Int} (hf : f k = Au) (hv : v ≠ Au) : ∀ m, k < m → rcn (upd f k v) m = rcn f m + 1
 | 0, h => by omega
 | m + 1, h => by
  simp only [rcn]
  by_cases e : k = m
  ·subst e
   rw [Ot (f := upd f k v) (g := f) k (fun i hi => by rw [At _ _ (by omega)]), Ai, hf, if_neg hv, if_pos rfl]
  ·rw [TM hf hv m (by omega), At _ _ (Ne.symm e)]; omega
theorem Il (f : Nat → Int) : ∀ m, rcn f m ≤ m
 | 0 => by simp [rcn]
 | m + 1 => by have := Il f m; simp only [rcn]; split <;> omega
inductive Tr (by' : List (Int × Stp)) : Nat → Nat → Prop
 | zero : Tr by' 0 0
 | step {v n i : Nat} {s : Stp} (hv : v ≠ 0) (hf : fnd (v : Int) by' 0 = some (i, s)) (h : Tr by' s.fr.toNat n) : Tr by' v (n + 1)
structure Inv (l : List Stp) (pi : Nat → Int) (q : FS) : Prop where
 zero : q.far 0 = 0
 low : ∀ v, v ≤ 40 → q.far v ≠ Au → pi v - pi 0 ≤ q.far v
 high : ∀ v, v ≤ 40 → q.far v ≠ Au → q.far v ≤ 1000000 * rcn q.far 41
 top : ∀ v, v ≤ 40 → q.far v ≤ Au
 ent : ∀ v : Nat, v ≤ 40 → v ≠ 0 → q.far v ≠ Au → ∃ i s, fnd (v : Int) q.by' 0 = some (i, s) ∧ s ∈ l ∧ s.to = v ∧ q.far s.fr.toNat ≠ Au ∧ q.far s.fr.toNat + s.co ≤ q.far v
 tr : ∀ v : Nat, v ≤ 40 → q.far v ≠ Au → ∃ n, Tr q.by' v n
theorem aCR {k : Int} {s : Stp} : ∀ {es : List (Int × Stp)}, ∃ i, fnd k (DJ k s es) 0 = some (i, s) := by
 intro es
 have key : ∀ (es : List (Int × Stp)) (n : Nat), (∀ i x, fnd k es n = some (i, x) → ∃ j, n ≤ i ∧ fnd k (es.set (i - n) (k, s)) n = some (j, s)) ∧ (fnd k es n = none → ∃ j, fnd k (es ++ [(k, s)]) n = some (j, s)) := by
  intro es
  induction es with
  | nil => intro n; exact ⟨fun i x h => (by cases h), fun _ => ⟨n, by simp [fnd]⟩⟩
  | cons e es ih =>
   intro n
   obtain ⟨h1, h2⟩ := ih (n + 1)
   constructor
   ·intro i x h
    simp only [fnd] at h
    split at h
    ·simp only [Option.some.injEq, Prod.mk.injEq] at h
     obtain ⟨rfl, _⟩ := h
     exact ⟨n, Nat.le_refl _, by simp [fnd]⟩
    ·rename_i hne
     obtain ⟨j, hj, hs⟩ := h1 i x h
     refine ⟨j, by omega, ?_⟩
     rw [show i - n = (i - (n + 1)) + 1 by omega, List.set_cons_succ]
     simp only [fnd, hne, if_false]; exact hs
   ·intro h
    simp only [fnd] at h
    split at h
    ·cases h
    ·rename_i hne
     obtain ⟨j, hj⟩ := h2 h
     exact ⟨j, by simp only [List.cons_append, fnd, hne, if_false]; exact hj⟩
 unfold DJ
 split
 ·rename_i i x h
  obtain ⟨j, _, hj⟩ := (key es 0).1 i x h
  exact ⟨j, by simpa using hj⟩
 ·rename_i h
  exact (key es 0).2 h
theorem UY {k k' : Int} {s : Stp} (hne : k' ≠ k) : ∀ {es : List (Int × Stp)}, (fnd k' (DJ k s es) 0).map (·.2) = (fnd k' es 0).map (·.2) := by
 intro es
 have key : ∀ (es : List (Int × Stp)) (n : Nat), (∀ i x m, fnd k es m = some (i, x) → (fnd k' (es.set (i - m) (k, s)) n).map (·.2) = (fnd k' es n).map (·.2)) ∧ (fnd k' (es ++ [(k, s)]) n).map (·.2) = (fnd k' es n).map (·.2) := by
  intro es
  induction es with
  | nil => intro n; exact ⟨fun i x m h => (by cases h), by simp [fnd, hne]⟩
  | cons e es ih =>
   intro n
   obtain ⟨h1, h2⟩ := ih (n + 1)
   constructor
   ·intro i x m h
    simp only [fnd] at h
    split at h
    ·rename_i hk
     simp only [Option.some.injEq, Prod.mk.injEq] at h
     obtain ⟨rfl, _⟩ := h
     have : ¬ k' = e.1 := by rw [← hk]; exact hne
     simp [fnd, hne, this]
    ·rename_i hk
     have hle : m + 1 ≤ i := by
      have : ∀ (es : List (Int × Stp)) (m i : Nat) (x : Stp), fnd k es m = some (i, x) → m ≤ i := by
       intro es
       induction es with
       | nil => intro m i x h; cases h
       | cons e es ih =>
        intro m i x h
        simp only [fnd] at h
        split at h
        ·simp only [Option.some.injEq, Prod.mk.injEq] at h; omega
        ·have := ih _ _ _ h; omega
      exact this _ _ _ _ h
     rw [show i - m = (i - (m + 1)) + 1 by omega, List.set_cons_succ]
     simp only [fnd]
     split
     ·rfl
     ·exact h1 i x (m + 1) h
   ·simp only [List.cons_append, fnd]
    split
    ·rfl
    ·exact h2
 unfold DJ
 split
 ·rename_i i x h
  have := (key es 0).1 i x 0 h
  simpa using this
 ·exact (key es 0).2
theorem GM {k k' : Int} {s t : Stp} {es : List (Int × Stp)} {i : Nat} (hne : k' ≠ k) (h : fnd k' es 0 = some (i, t)) : ∃ j, fnd k' (DJ k s es) 0 = some (j, t) := by
 have := UY (s := s) hne (es := es)
 rw [h] at this
 cases hq : fnd k' (DJ k s es) 0 with
 | none => rw [hq] at this; cases this
 | some p =>
  rw [hq] at this
  simp at this
  exact ⟨p.1, by rw [← this]⟩
structure PB (pi : Nat → Int) : Prop where
 zero : pi 0 = 0
 lo : ∀ v, v ≤ 40 → 0 ≤ pi v
 hi : ∀ v, v ≤ 40 → pi v ≤ 50000000
structure OkL (l : List Stp) : Prop where
 ok : ∀ s ∈ l, OkS s
 ne : ∀ s ∈ l, s.fr ≠ s.to
theorem aCS (f : Nat → Int) (k : Nat) : upd f k (f k) = f := by
 funext j
 by_cases e : j = k
 ·subst e; rw [Ai]
 ·rw [At _ _ e]
theorem UZ {l : List Stp} {pi : Nat → Int} {q : FS} {s : Stp} (hl : OkL l) (hrc : RC l pi) (hpb : PB pi) (hs : s ∈ l) (h : Inv l pi q) : Inv l pi (Br q s) := by
 by_cases hn : q.far s.fr.toNat = Au
 ·rw [FE hn]; exact h
 have ho := hl.ok s hs
 have a0 := ho.f0
 have a1 := ho.f40
 have a2 := ho.t0
 have a3 := ho.t40
 have a4 := ho.c0
 have a5 := ho.c1
 have hne := hl.ne s hs
 have hfr := h.high s.fr.toNat (by omega) hn
 have hfl := h.low s.fr.toNat (by omega) hn
 have hrl := Il q.far 41
 have hz := hpb.zero
 have p1 := hpb.lo s.fr.toNat (by omega)
 have p2 := hpb.lo s.to.toNat (by omega)
 have hr := hrc s hs
 have hw : wr .i64 (q.far s.fr.toNat + s.co) = q.far s.fr.toNat + s.co := BQ (by omega) (by omega)
 by_cases hlt : q.far s.fr.toNat + s.co < q.far s.to.toNat
 case neg =>
  have e : Br q s = q := by
   rw [Br, if_neg hn, hw]
   have hm : min (q.far s.to.toNat) (q.far s.fr.toNat + s.co) = q.far s.to.toNat := by rw [Int.min_def]; split <;> omega
   rw [hm, aCS, if_neg (Int.lt_irrefl _)]
  rw [e]; exact h
 have e : Br q s = ⟨upd q.far s.to.toNat (q.far s.fr.toNat + s.co), DJ s.to s q.by'⟩ := by
  rw [Br, if_neg hn, hw]
  have hm : min (q.far s.to.toNat) (q.far s.fr.toNat + s.co) = q.far s.fr.toNat + s.co := by rw [Int.min_def]; split <;> omega
  rw [hm, if_pos hlt]
 rw [e]
 have ht0 : s.to.toNat ≠ 0 := fun e => by
  rw [e, h.zero] at hlt
  rw [e] at hr
  omega
 have hnv : q.far s.fr.toNat + s.co ≠ Au := by unfold Au; omega
 have hft : s.fr.toNat ≠ s.to.toNat := by omega
 have hti : ((s.to.toNat : Nat) : Int) = s.to := by omega
 have hrcn : rcn q.far 41 ≤ rcn (upd q.far s.to.toNat (q.far s.fr.toNat + s.co)) 41 ∧ (q.far s.to.toNat = Au → rcn (upd q.far s.to.toNat (q.far s.fr.toNat + s.co)) 41 = rcn q.far 41 + 1) := by
  by_cases ho : q.far s.to.toNat = Au
  ·have := TM ho hnv 41 (by omega)
   exact ⟨by omega, fun _ => this⟩
  ·have : rcn (upd q.far s.to.toNat (q.far s.fr.toNat + s.co)) 41 = rcn q.far 41 := Ot 41 (fun i _ => by
    by_cases e : i = s.to.toNat
    ·subst e; rw [Ai]; exact ⟨fun h => absurd h hnv, fun h => absurd h ho⟩
    ·rw [At _ _ e])
   exact ⟨by omega, fun h => absurd h ho⟩
 have keep : ∀ (n v : Nat), Tr q.by' v n → v ≤ 40 → q.far v ≠ Au → (q.far s.to.toNat = Au ∨ q.far v - pi v < q.far s.to.toNat - pi s.to.toNat) → Tr (DJ s.to s q.by') v n := by
  intro n
  induction n with
  | zero => intro v h _ _ _; cases h; exact .zero
  | succ n ih =>
   intro v hv hv40 hvn hg
   cases hv with
   | step hv0 hf hv =>
   rename_i i t
   have hvt : (v : Int) ≠ s.to := fun e => by
    have : v = s.to.toNat := by omega
    subst this
    rcases hg with hg | hg
    ·exact hvn hg
    ·omega
   obtain ⟨j, hj⟩ := GM (s := s) hvt hf
   obtain ⟨i', t', h1, h2, h3, h4, h5⟩ := h.ent v hv40 hv0 hvn
   rw [hf] at h1
   simp only [Option.some.injEq, Prod.mk.injEq] at h1
   obtain ⟨_, rfl⟩ := h1
   have ht := hl.ok t h2
   have b0 := ht.f0
   have b1 := ht.f40
   have hrt := hrc t h2
   rw [h3, Int.toNat_natCast] at hrt
   refine .step hv0 hj (ih _ hv (by omega) h4 ?_)
   rcases hg with hg | hg
   ·exact .inl hg
   ·exact .inr (by omega)
 obtain ⟨nf, hnf⟩ := h.tr s.fr.toNat (by omega) hn
 have hkf := keep nf s.fr.toNat hnf (by omega) hn (by
  by_cases ho : q.far s.to.toNat = Au
  ·exact .inl ho
  ·exact .inr (by omega))
 obtain ⟨j, hj⟩ := aCR (k := s.to) (s := s) (es := q.by')
 have hto : Tr (DJ s.to s q.by') s.to.toNat (nf + 1) := .step ht0 (by rw [hti]; exact hj) hkf
 have re : ∀ (n v : Nat), Tr q.by' v n → ∃ m, Tr (DJ s.to s q.by') v m := by
  intro n
  induction n with
  | zero => intro v h; cases h; exact ⟨0, .zero⟩
  | succ n ih =>
   intro v hv
   cases hv with
   | step hv0 hf hv =>
   by_cases e : v = s.to.toNat
   ·subst e; exact ⟨_, hto⟩
   ·obtain ⟨m, hm⟩ := ih _ hv
    obtain ⟨j, hj⟩ := GM (s := s) (show (v : Int) ≠ s.to by omega) hf
    exact ⟨m + 1, .step hv0 hj hm⟩
 refine ⟨?_, fun v hv hvn => ?_, fun v hv hvn => ?_, fun v hv => ?_, fun v hv hv0 hvn => ?_, fun v hv hvn => ?_⟩
 ·show upd q.far _ _ 0 = 0
  rw [At _ _ (Ne.symm ht0)]; exact h.zero
 ·by_cases e : v = s.to.toNat
  ·subst e; simp only [Ai]; omega
  ·simp only [At _ _ e] at hvn ⊢; exact h.low v hv hvn
 ·by_cases e : v = s.to.toNat
  ·subst e
   simp only [Ai]
   by_cases ho : q.far s.to.toNat = Au
   ·have := hrcn.2 ho; omega
   ·have := h.high _ hv ho; have := hrcn.1; omega
  ·simp only [At _ _ e] at hvn ⊢
   have := h.high v hv hvn; have := hrcn.1; omega
 ·by_cases e : v = s.to.toNat
  ·subst e; simp only [Ai]; have := h.top _ hv; omega
  ·simp only [At _ _ e]; exact h.top v hv
 ·by_cases e : v = s.to.toNat
  ·subst e
   refine ⟨j, s, by rw [hti]; exact hj, hs, by omega, ?_, ?_⟩
   ·simp only [At _ _ hft]; exact hn
   ·simp only [At _ _ hft, Ai]; exact Int.le_refl _
  ·simp only [At _ _ e] at hvn ⊢
   obtain ⟨i, t, h1, h2, h3, h4, h5⟩ := h.ent v hv hv0 hvn
   obtain ⟨j', hj'⟩ := GM (s := s) (show (v : Int) ≠ s.to by omega) h1
   refine ⟨j', t, hj', h2, h3, ?_, ?_⟩
   ·by_cases e2 : t.fr.toNat = s.to.toNat
    ·simp only [e2, Ai]; exact hnv
    ·simp only [At _ _ e2]; exact h4
   ·by_cases e2 : t.fr.toNat = s.to.toNat
    ·simp only [e2, Ai]; rw [e2] at h5; omega
    ·simp only [At _ _ e2]; exact h5
 ·by_cases e : v = s.to.toNat
  ·subst e; exact ⟨_, hto⟩
  ·simp only [At _ _ e] at hvn
   obtain ⟨n, hn⟩ := h.tr v hv hvn
   exact re n v hn
end Go.Proofs.YtfgdbeijjbijnaaGreatDoor
set_option linter.unusedSimpArgs false
set_option linter.unusedVariables false
set_option maxRecDepth 100000
namespace Go.Proofs.YtfgdbeijjbijnaaGreatDoor
open Go Go.Abs Go.Proofs
theorem aHQ (l : List Stp) (pi : Nat → Int) : Inv l pi q0 := by
 have h0 : q0.far 0 = 0 := by simp [q0, upd]
 have hn : ∀ v, v ≠ 0 → q0.far v = Au := fun v hv => by simp [q0, upd, hv]
 refine ⟨h0, fun v _ h => ?_, fun v _ h => ?_, fun v _ => ?_, fun v _ hv h => absurd (hn v hv) h, fun v _ h => ?_⟩
 ·by_cases e : v = 0
  ·subst e; rw [h0]; omega
  ·exact absurd (hn v e) h
 ·by_cases e : v = 0
  ·subst e; rw [h0]; omega
  ·exact absurd (hn v e) h
 ·by_cases e : v = 0
  ·subst e; rw [h0]; decide
  ·rw [hn v e]; exact Int.le_refl _
 ·by_cases e : v = 0
  ·subst e; exact ⟨0, .zero⟩
  ·exact absurd (hn v e) h
theorem Im {l : List Stp} {pi : Nat → Int} (hl : OkL l) (hrc : RC l pi) (hpb : PB pi) : ∀ (a : List Stp) {q : FS}, (∀ s ∈ a, s ∈ l) → Inv l pi q → Inv l pi (AC a q)
 | [], q, _, h => h
 | s :: a, q, ha, h => Im hl hrc hpb a (q := Br q s) (fun x hx => ha x (by simp [hx])) (UZ hl hrc hpb (ha s (by simp)) h)
theorem P3 (q : FS) (s : Stp) (v : Nat) : (Br q s).far v ≤ q.far v := by
 unfold Br
 split
 ·exact Int.le_refl _
 ·simp only [upd]
  split
  ·rename_i e; subst e; exact Int.min_le_left _ _
  ·exact Int.le_refl _
theorem FF : ∀ (a : List Stp) (q : FS) (v : Nat), (AC a q).far v ≤ q.far v
 | [], q, v => Int.le_refl _
 | s :: a, q, v => Int.le_trans (FF a (Br q s) v) (P3 q s v)
def KH (f : Nat → Int) : Nat → Int
 | 0 => 0
 | m + 1 => KH f m + f m
theorem TN {f g : Nat → Int} (h : ∀ v, f v ≤ g v) : ∀ m, KH f m ≤ KH g m
 | 0 => Int.le_refl _
 | m + 1 => by have := TN h m; have := h m; simp only [KH]; omega
theorem TO {f g : Nat → Int} (h : ∀ v, f v ≤ g v) {k : Nat} (hk : f k ≠ g k) : ∀ m, k < m → KH f m < KH g m
 | 0, hm => by omega
 | m + 1, hm => by
  have h1 := h m
  simp only [KH]
  by_cases e : k = m
  ·subst e
   have := TN h k; omega
  ·have := TO h hk m (by omega); omega
theorem IJ {f : Nat → Int} : ∀ m, (∀ v, v < m → 0 ≤ f v) → 0 ≤ KH f m
 | 0, _ => Int.le_refl _
 | m + 1, h => by
  have := IJ m (fun v hv => h v (by omega)); have := h m (by omega); simp only [KH]; omega
theorem Inv.nonneg {l : List Stp} {pi : Nat → Int} {q : FS} (hpb : PB pi) (h : Inv l pi q) {v : Nat} (hv : v ≤ 40) : 0 ≤ q.far v := by
 by_cases e : q.far v = Au
 ·rw [e]; decide
 ·have := h.low v hv e; have := hpb.zero; have := hpb.lo v hv; omega
def Fix (l : List Stp) (f : Nat → Int) : Prop := ∀ s ∈ l, f s.fr.toNat ≠ Au → f s.to.toNat ≤ f s.fr.toNat + s.co
theorem aHR {l : List Stp} {pi : Nat → Int} {q : FS} (hl : OkL l) (hrc : RC l pi) (hpb : PB pi) (hi : Inv l pi q) (h : eqN 41 (AC l q).far q.far = true) : Fix l (AC l q).far := by
 intro s hs hn
 obtain ⟨a, b, rfl⟩ := List.append_of_mem hs
 have heq : ∀ v, v ≤ 40 → (AC (a ++ s :: b) q).far v = q.far v := fun v hv => by
  have := List.all_eq_true.1 h v (by simp; omega)
  simpa using this
 have ho := hl.ok s hs
 have a0 := ho.f0
 have a1 := ho.f40
 have a2 := ho.t0
 have a3 := ho.t40
 have a4 := ho.c0
 have a5 := ho.c1
 have e : AC (a ++ s :: b) q = AC b (Br (AC a q) s) := by rw [KF]; rfl
 have hm : ∀ v, v ≤ 40 → (AC a q).far v = (AC (a ++ s :: b) q).far v := fun v hv => by
  have h1 := FF a q v
  have h2 := P3 (AC a q) s v
  have h3 := FF b (Br (AC a q) s) v
  rw [← e, heq v hv] at h3
  rw [heq v hv]; omega
 have hia := Im hl hrc hpb a (fun x hx => by simp [hx]) hi
 have hnf : (AC a q).far s.fr.toNat ≠ Au := by rw [hm _ (by omega)]; exact hn
 have hhi := hia.high _ (by omega) hnf
 have hlo := hia.nonneg hpb (v := s.fr.toNat) (by omega)
 have hrl := Il (AC a q).far 41
 have hw : wr .i64 ((AC a q).far s.fr.toNat + s.co) = (AC a q).far s.fr.toNat + s.co := BQ (by omega) (by omega)
 have h4 : (Br (AC a q) s).far s.to.toNat ≤ (AC a q).far s.fr.toNat + s.co := by
  rw [Br, if_neg hnf, hw]
  simp only [Ai]
  exact Int.min_le_right _ _
 have h3 := FF b (Br (AC a q) s) s.to.toNat
 rw [← e] at h3
 rw [← hm s.fr.toNat (by omega)]
 omega
theorem GN {l : List Stp} : ∀ {n : Nat} {q x : FS}, C9 l n q = some x → ∀ k, C9 l (n + k) q = some x
 | 0, q, x, h, k => by cases h
 | n + 1, q, x, h, k => by
  rw [Nat.add_right_comm, C9]
  rw [C9] at h
  split at h
  ·rename_i he; rw [if_pos he]; exact h
  ·rename_i he; rw [if_neg he]; exact GN h k
theorem TP {l : List Stp} {pi : Nat → Int} (hl : OkL l) (hrc : RC l pi) (hpb : PB pi) : ∀ (m : Nat) {q : FS}, Inv l pi q → KH q.far 41 < m → ∃ n x, C9 l n q = some x ∧ Inv l pi x ∧ Fix l x.far
 | 0, q, hi, hm => by
  have := IJ 41 (fun v hv => hi.nonneg hpb (v := v) (by omega))
  omega
 | m + 1, q, hi, hm => by
  have hi2 := Im hl hrc hpb l (fun x hx => hx) hi
  cases he : eqN 41 (AC l q).far q.far with
  | true => exact ⟨1, AC l q, by rw [C9, if_pos he], hi2, aHR hl hrc hpb hi he⟩
  | false =>
   obtain ⟨k, hk, hne⟩ := List.all_eq_false.1 he
   have hlt := TO (fun v => FF l q v) (k := k) (by simpa using hne) 41 (by simpa using hk)
   obtain ⟨n, x, h1, h2, h3⟩ := TP hl hrc hpb m hi2 (by omega)
   exact ⟨n + 1, x, by rw [C9, he]; exact h1, h2, h3⟩
end Go.Proofs.YtfgdbeijjbijnaaGreatDoor
set_option linter.unusedSimpArgs false
set_option linter.unusedVariables false
set_option maxRecDepth 100000
namespace Go.Proofs.YtfgdbeijjbijnaaGreatDoor
open Go Go.Abs Go.Proofs
inductive Ch (es : List (Int × Stp)) : Nat → List Stp → Prop
 | zero : Ch es 0 []
 | step {v i : Nat} {s : Stp} {c : List Stp} (hv : v ≠ 0) (hf : fnd (v : Int) es 0 = some (i, s)) (h : Ch es s.fr.toNat c) : Ch es v (s :: c)
theorem Tr.ch {es : List (Int × Stp)} {v n : Nat} (h : Tr es v n) : ∃ c, Ch es v c := by
 induction h with
 | zero => exact ⟨[], .zero⟩
 | step hv hf _ ih => obtain ⟨c, hc⟩ := ih; exact ⟨_, .step hv hf hc⟩
theorem Ch.uniq {es : List (Int × Stp)} {v : Nat} {c : List Stp} (h : Ch es v c) : ∀ {c' : List Stp}, Ch es v c' → c' = c := by
 induction h with
 | zero => intro c' h'; cases h' with | zero => rfl | step hv _ _ => exact absurd rfl hv
 | step hv hf _ ih =>
  intro c' h'
  cases h' with
  | zero => exact absurd rfl hv
  | step hv' hf' h' =>
   rw [hf] at hf'
   simp only [Option.some.injEq, Prod.mk.injEq] at hf'
   obtain ⟨_, rfl⟩ := hf'
   rw [ih h']
theorem aCT {k : Int} : ∀ {es : List (Int × Stp)} {n i : Nat} {x : Stp}, fnd k es n = some (i, x) → n ≤ i
 | [], n, i, x, h => by cases h
 | e :: es, n, i, x, h => by
  simp only [fnd] at h
  split at h
  ·simp only [Option.some.injEq, Prod.mk.injEq] at h; omega
  ·have := aCT h; omega
theorem MN {k : Int} : ∀ {es : List (Int × Stp)} (n m : Nat), (fnd k es n).map (·.2) = (fnd k es m).map (·.2)
 | [], _, _ => rfl
 | e :: es, n, m => by
  simp only [fnd]
  split
  ·rfl
  ·exact MN _ _
theorem aFm {k k' : Int} (hne : k' ≠ k) {es : List (Int × Stp)} {i : Nat} {t : Stp} (h : fnd k' es 0 = some (i, t)) : ∃ j, fnd k' (Fx k es) 0 = some (j, t) := by
 have key : ∀ (es : List (Int × Stp)) (n m i : Nat) (x : Stp), fnd k es m = some (i, x) → (fnd k' (es.eraseIdx (i - m)) n).map (·.2) = (fnd k' es n).map (·.2) := by
  intro es
  induction es with
  | nil => intro n m i x h; cases h
  | cons e es ih =>
   intro n m i x h
   simp only [fnd] at h
   split at h
   ·rename_i hk
    simp only [Option.some.injEq, Prod.mk.injEq] at h
    obtain ⟨rfl, _⟩ := h
    have hn : ¬ k' = e.1 := by rw [← hk]; exact hne
    rw [Nat.sub_self, List.eraseIdx_cons_zero]
    simp only [fnd, hn, if_false]
    exact MN _ _
   ·have hle := aCT h
    rw [show i - m = (i - (m + 1)) + 1 by omega, List.eraseIdx_cons_succ]
    simp only [fnd]
    split
    ·rfl
    ·exact ih _ _ _ _ h
 have e : (fnd k' (Fx k es) 0).map (·.2) = (fnd k' es 0).map (·.2) := by
  unfold Fx
  split
  ·rename_i i x hk
   have := key es 0 0 i x hk
   simpa using this
  ·rfl
 rw [h] at e
 cases hq : fnd k' (Fx k es) 0 with
 | none => rw [hq] at e; cases e
 | some p =>
  rw [hq] at e
  simp at e
  exact ⟨p.1, by rw [← e]⟩
theorem Ch.del {es : List (Int × Stp)} {v : Nat} : ∀ {c : List Stp} {u : Nat}, Ch es u c → (∀ c', Ch es v c' → c.length < c'.length) → Ch (Fx (v : Int) es) u c
 | [], u, h, _ => by cases h; exact .zero
 | s :: c, u, h, hv => by
  have hu : u ≠ v := fun e => by subst e; exact absurd (hv _ h) (Nat.lt_irrefl _)
  cases h with
  | step hu0 hf h =>
   obtain ⟨j, hj⟩ := aFm (k := (v : Int)) (show (u : Int) ≠ v by omega) hf
   exact .step hu0 hj (Ch.del h (fun c' hc' => by have := hv c' hc'; simp at this; omega))
theorem Ch.tail {es : List (Int × Stp)} {v : Nat} {s : Stp} {c : List Stp} (h : Ch es v (s :: c)) : Ch (Fx (v : Int) es) s.fr.toNat c := by
 have h0 := h
 cases h with
 | step hv hf h => exact h.del (fun c' hc' => by rw [h0.uniq hc']; simp)
def Gs (c : List Stp) (w : W) : W := c.foldl (fun w s => Bw s w) w
theorem P4 : ∀ {c : List Stp} {es : List (Int × Stp)} {v : Nat} {w : W} (k : Nat), Ch es v c → (∀ s ∈ c, 0 ≤ s.fr) → EN (c.length + 1 + k) v es w = some (true, Gs c w)
 | [], es, v, w, k, h, _ => by
  cases h
  rw [show ([] : List Stp).length + 1 + k = k + 1 by simp; omega, EN, if_pos (show (((0 : Nat) : Int)) = 0 from rfl)]; rfl
 | s :: c, es, v, w, k, h, hs => by
  have ht := h.tail
  have h0 := hs s (by simp)
  cases h with
  | step hv hf _ =>
   rw [show (s :: c).length + 1 + k = (c.length + 1 + k) + 1 by simp; omega, EN, if_neg (by omega), hf]
   have := P4 (w := Bw s w) k ht (fun t ht => hs t (by simp [ht]))
   rw [show ((s.fr.toNat : Nat) : Int) = s.fr by omega] at this
   exact this
theorem TQ {l : List Stp} {pi : Nat → Int} {q : FS} (hl : OkL l) (hi : Inv l pi q) (hfx : Fix l q.far) : ∀ {c : List Stp} {v : Nat}, Ch q.by' v c → v ≤ 40 → q.far v ≠ Au → ∀ s ∈ c, s ∈ l ∧ q.far s.to.toNat = q.far s.fr.toNat + s.co ∧ q.far s.fr.toNat ≠ Au
 | [], v, _, _, _, s, hs => by simp at hs
 | t :: c, v, h, hv40, hvn, s, hs => by
  cases h with
  | step hv hf h =>
   obtain ⟨i, t', h1, h2, h3, h4, h5⟩ := hi.ent v hv40 hv hvn
   rw [hf] at h1
   simp only [Option.some.injEq, Prod.mk.injEq] at h1
   obtain ⟨_, rfl⟩ := h1
   have ho := hl.ok _ h2
   have b0 := ho.f0
   have b1 := ho.f40
   rcases List.mem_cons.1 hs with rfl | hs
   ·refine ⟨h2, ?_, h4⟩
    have := hfx _ h2 h4
    rw [h3, Int.toNat_natCast] at this ⊢
    omega
   ·exact TQ hl hi hfx h (by omega) h4 s hs
theorem aCU {l : List Stp} {pi : Nat → Int} {q : FS} (hi : Inv l pi q) {v : Nat} {s : Stp} {c : List Stp} (h : Ch q.by' v (s :: c)) (hv40 : v ≤ 40) (hvn : q.far v ≠ Au) : s.to = v ∧ Ch q.by' s.fr.toNat c ∧ q.far s.fr.toNat ≠ Au := by
 cases h with
 | step hv hf h =>
  obtain ⟨i, t', h1, h2, h3, h4, h5⟩ := hi.ent v hv40 hv hvn
  rw [hf] at h1
  simp only [Option.some.injEq, Prod.mk.injEq] at h1
  obtain ⟨_, rfl⟩ := h1
  exact ⟨h3, h, h4⟩
theorem FG {l : List Stp} {pi : Nat → Int} {q : FS} (hl : OkL l) (hi : Inv l pi q) : ∀ {c : List Stp} {v : Nat}, Ch q.by' v c → v ≤ 40 → q.far v ≠ Au → c.Pairwise (fun s t => t.to ≠ s.to)
 | [], _, _, _, _ => .nil
 | s :: c, v, h, hv40, hvn => by
  obtain ⟨h1, h2, h3⟩ := aCU hi h hv40 hvn
  have hs : s ∈ l := by
   cases h with
   | step hv hf _ =>
    obtain ⟨i, t', e1, e2, _⟩ := hi.ent v hv40 hv hvn
    rw [hf] at e1
    simp only [Option.some.injEq, Prod.mk.injEq] at e1
    obtain ⟨_, rfl⟩ := e1
    exact e2
  have ho := hl.ok s hs
  have b0 := ho.f0
  have b1 := ho.f40
  refine List.Pairwise.cons (fun t ht e => ?_) (FG hl hi h2 (by omega) h3)
  have key : ∀ {c : List Stp} {u : Nat}, Ch q.by' u c → u ≤ 40 → q.far u ≠ Au → ∀ t ∈ c, ∃ c', Ch q.by' t.to.toNat c' ∧ c'.length ≤ c.length := by
   intro c
   induction c with
   | nil => intro u _ _ _ t ht; simp at ht
   | cons x c ih =>
    intro u hu hu40 hun t ht
    obtain ⟨g1, g2, g3⟩ := aCU hi hu hu40 hun
    rcases List.mem_cons.1 ht with rfl | ht
    ·exact ⟨_, by rw [g1, Int.toNat_natCast]; exact hu, Nat.le_refl _⟩
    ·have hx : x ∈ l := by
      cases hu with
      | step hv hf _ =>
       obtain ⟨i, t', e1, e2, _⟩ := hi.ent u hu40 hv hun
       rw [hf] at e1
       simp only [Option.some.injEq, Prod.mk.injEq] at e1
       obtain ⟨_, rfl⟩ := e1
       exact e2
     have hox := hl.ok x hx
     have c0 := hox.f0
     have c1 := hox.f40
     obtain ⟨c', h1, h2⟩ := ih g2 (by omega) g3 t ht
     exact ⟨c', h1, by simp; omega⟩
  obtain ⟨c', g1, g2⟩ := key h2 (by omega) h3 t ht
  rw [e, h1, Int.toNat_natCast] at g1
  have := h.uniq g1
  subst this
  simp at g2
  omega
end Go.Proofs.YtfgdbeijjbijnaaGreatDoor
