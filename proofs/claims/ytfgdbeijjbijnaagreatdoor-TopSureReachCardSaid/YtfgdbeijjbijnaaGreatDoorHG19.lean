/- The least and the greatest number; sums; open, Lit, Check. -/
import Derived.Test.YtfgdbeijjbijnaaGreatDoorHG17
import Derived.Test.YtfgdbeijjbijnaaGreatDoorHG12
import Derived.Test.YtfgdbeijjbijnaaGreatDoorHG18
set_option linter.unusedSimpArgs false
set_option linter.unusedVariables false
set_option linter.unusedSimpArgs false
set_option linter.unusedVariables false
set_option maxRecDepth 100000
namespace Go.Proofs.YtfgdbeijjbijnaaGreatDoor
open Go Go.Abs Go.Proofs
def KI : List (Nat × List Nat) := [(0, [0]), (1, [0, 7]), (2, [0]), (3, [0, 3]), (4, [0, 3, 4]), (5, [0, 3, 4, 15]), (6, [0, 3, 4]), (7, [0, 3, 4]), (8, [2])]
theorem Cy : lookK KI 0 = some [0] ∧ lookK KI 1 = some [0, 7] ∧ lookK KI 2 = some [0] ∧ lookK KI 3 = some [0, 3] ∧ lookK KI 4 = some [0, 3, 4] ∧ lookK KI 5 = some [0, 3, 4, 15] ∧ lookK KI 6 = some [0, 3, 4] ∧ lookK KI 7 = some [0, 3, 4] ∧ lookK KI 8 = some [2] := ⟨rfl, rfl, rfl, rfl, rfl, rfl, rfl, rfl, rfl⟩
def Ou : List (Nat × List Nat) := [(0, [0]), (1, [0, 7]), (2, [0]), (3, [0, 3]), (4, [0, 3, 4]), (5, [0, 3, 4, 15]), (6, [0, 3, 4]), (7, [0, 3, 4]), (8, [2])]
theorem Cz : lookK Ou 0 = some [0] ∧ lookK Ou 1 = some [0, 7] ∧ lookK Ou 2 = some [0] ∧ lookK Ou 3 = some [0, 3] ∧ lookK Ou 4 = some [0, 3, 4] ∧ lookK Ou 5 = some [0, 3, 4, 15] ∧ lookK Ou 6 = some [0, 3, 4] ∧ lookK Ou 7 = some [0, 3, 4] ∧ lookK Ou 8 = some [2] := ⟨rfl, rfl, rfl, rfl, rfl, rfl, rfl, rfl, rfl⟩
def Ov : List (Nat × List Nat) := [(0, [0]), (1, [0, 7]), (2, [0]), (3, [0, 3]), (4, [0, 3, 4]), (5, [0, 3, 4, 15]), (6, [0, 3, 4]), (7, [0, 3, 4]), (8, [2])]
theorem CA : lookK Ov 0 = some [0] ∧ lookK Ov 1 = some [0, 7] ∧ lookK Ov 2 = some [0] ∧ lookK Ov 3 = some [0, 3] ∧ lookK Ov 4 = some [0, 3, 4] ∧ lookK Ov 5 = some [0, 3, 4, 15] ∧ lookK Ov 6 = some [0, 3, 4] ∧ lookK Ov 7 = some [0, 3, 4] ∧ lookK Ov 8 = some [2] := ⟨rfl, rfl, rfl, rfl, rfl, rfl, rfl, rfl, rfl⟩
def P5 : List (Nat × List Nat) := [(0, [0]), (1, [0, 3]), (2, [3, 6, 7, 8]), (3, [3, 6, 7, 8, 9]), (4, [3, 5, 6, 7, 8]), (5, [3, 6, 7, 8]), (6, [3, 6, 7, 8]), (7, [2])]
theorem CB : lookK P5 0 = some [0] ∧ lookK P5 1 = some [0, 3] ∧ lookK P5 2 = some [3, 6, 7, 8] ∧ lookK P5 3 = some [3, 6, 7, 8, 9] ∧ lookK P5 4 = some [3, 5, 6, 7, 8] ∧ lookK P5 5 = some [3, 6, 7, 8] ∧ lookK P5 6 = some [3, 6, 7, 8] ∧ lookK P5 7 = some [2] := ⟨rfl, rfl, rfl, rfl, rfl, rfl, rfl, rfl⟩
def Gd : List (Nat × List Nat) := [(0, [1, 2]), (1, [1, 2, 6]), (2, [1, 2, 6, 13]), (3, [4, 5]), (4, [1, 2, 20]), (5, [4, 5]), (6, [1, 7]), (7, [7, 23, 24, 25]), (8, [7, 23, 24, 25, 26]), (9, [7, 9, 23, 24, 25]), (10, [7, 23, 24, 25]), (11, [7, 23, 24, 25]), (12, [4, 5])]
theorem CC : lookK Gd 0 = some [1, 2] ∧ lookK Gd 1 = some [1, 2, 6] ∧ lookK Gd 2 = some [1, 2, 6, 13] ∧ lookK Gd 3 = some [4, 5] ∧ lookK Gd 4 = some [1, 2, 20] ∧ lookK Gd 5 = some [4, 5] ∧ lookK Gd 6 = some [1, 7] ∧ lookK Gd 7 = some [7, 23, 24, 25] ∧ lookK Gd 8 = some [7, 23, 24, 25, 26] ∧ lookK Gd 9 = some [7, 9, 23, 24, 25] ∧ lookK Gd 10 = some [7, 23, 24, 25] ∧ lookK Gd 11 = some [7, 23, 24, 25] ∧ lookK Gd 12 = some [4, 5] := ⟨rfl, rfl, rfl, rfl, rfl, rfl, rfl, rfl, rfl, rfl, rfl, rfl, rfl⟩
def U0 : List (Nat × List Nat) := [(0, [1, 2]), (1, [6, 7]), (2, [6, 7, 15]), (3, [4, 5]), (4, [4, 5])]
theorem CD : lookK U0 0 = some [1, 2] ∧ lookK U0 1 = some [6, 7] ∧ lookK U0 2 = some [6, 7, 15] ∧ lookK U0 3 = some [4, 5] ∧ lookK U0 4 = some [4, 5] := ⟨rfl, rfl, rfl, rfl, rfl⟩
def P6 : List (Nat × List Nat) := [(0, [1, 2]), (1, [2, 6, 7]), (2, [2, 6, 7, 15]), (3, [4, 5]), (4, [6, 22]), (5, [4, 5]), (6, [4, 5])]
theorem CE : lookK P6 0 = some [1, 2] ∧ lookK P6 1 = some [2, 6, 7] ∧ lookK P6 2 = some [2, 6, 7, 15] ∧ lookK P6 3 = some [4, 5] ∧ lookK P6 4 = some [6, 22] ∧ lookK P6 5 = some [4, 5] ∧ lookK P6 6 = some [4, 5] := ⟨rfl, rfl, rfl, rfl, rfl, rfl, rfl⟩
theorem MO : ∀ (l : List Int) (m y : Int), DY m (l ++ [y]) = min (DY m l) y
 | [], m, y => rfl
 | x :: l, m, y => MO l (min m x) y
theorem aCV {i n : Nat} (h : i < n) (hn : n ≤ 140737488355328) : wr .i64 (((i + 1 : Nat) : Int) + 1) = ((i + 2 : Nat) : Int) := by rw [CS] <;> omega
set_option maxHeartbeats 1000000 in
theorem aPQ (x : Int) (l : List Int) : BA Tryz.prog 73 [ints (x :: l)] (I (DY x l)) := by
 refine pure_wkE (bad := []) (kp := KI) (X := tx) (nt := 25) (rs := [.tmp 2]) Tryz.func73 rfl rfl rfl rfl mo (by kernel_rfl) rfl rfl (fun hf => ?_)
 have hfit := Fz (hf (ints (x :: l)) (by simp))
 have hfit : l.length + 1 ≤ 140737488355328 := by simpa using hfit
 have h0 : ¬ ((l.length + 1 : Nat) : Int) < 1 := by omega
 have h0' : ¬ ((l.length : Int) + 1) < 1 := by omega
 have cx : (0 : Int) < ((l.length + 1 : Nat) : Int) := by omega
 simp (maxSteps := 2000000) only [go_sem, reduceIte, Nat.reduceEqDiff, Nat.reduceAdd, Int.reduceLE, Int.reduceToNat, Cy, Cz, CA, CB, CC, CD, CE, ints, h0, h0', iD, cx]
 refine goE_loop (bad := []) (kp := KI) (fun i : Nat => { slots := [(0, ints (x :: l)), (3, I (DY x (l.take i))), (4, I ((i + 1 : Nat) : Int))], heap := [], marks := [] }) (fun i => i ≤ l.length) (fun i => l.length - i) 0 mo (by kernel_rfl) ?_ (Nat.zero_le _) ?_
 ·refine ent_weaken [] rfl rfl (Nat.zero_le _) rfl rfl ?_
  simp (maxSteps := 2000000) only [go_sem, reduceIte, Nat.reduceEqDiff, Cy, Cz, CA, CB, CC, CD, CE, ints, iD, DY]
  all_goals first | exact .refl _ | exact ⟨.refl _, .refl _⟩ | exact ⟨.refl _, .refl _, .refl _⟩ | exact ⟨.refl _, _, rfl⟩ | exact ⟨_, rfl⟩ | exact ⟨.refl _, [], by simp⟩ | exact ⟨[], by simp⟩
 rintro i hi
 simp (maxSteps := 2000000) only [go_sem, reduceIte, Nat.reduceEqDiff, Nat.reduceAdd, Cy, Cz, CA, CB, CC, CD, CE, ints]
 refine goE_if (fun h => ?_) (fun h => ?_)
 ·have hlt : i < l.length := by simp at h; omega
  obtain ⟨y, hy⟩ := Bm hlt
  have c1 : (decide ((0 : Int) ≤ ((i + 1 : Nat) : Int)) && decide (((i + 1 : Nat) : Int) < ((l.length + 1 : Nat) : Int))) = true := by simp; omega
  simp (maxSteps := 2000000) only [go_sem, reduceIte, Nat.reduceEqDiff, Nat.reduceAdd, Cy, Cz, CA, CB, CC, CD, CE, hy, iD, c1, DX, DY, aCV hlt (show l.length ≤ 140737488355328 by omega)]
  refine ⟨i + 1, hlt, by omega, ?_⟩
  refine ent_weaken [] rfl rfl (Nat.zero_le _) rfl rfl ?_
  simp (maxSteps := 2000000) only [go_sem, reduceIte, Nat.reduceEqDiff, Cy, Cz, CA, CB, CC, CD, CE, DK hy, MO]
  all_goals first | exact .refl _ | exact ⟨.refl _, .refl _⟩ | exact ⟨.refl _, .refl _, .refl _⟩ | exact ⟨.refl _, _, rfl⟩ | exact ⟨_, rfl⟩ | exact ⟨.refl _, [], by simp⟩ | exact ⟨[], by simp⟩
 ·have hi' : i = l.length := by simp at h; omega
  subst hi'
  simp (maxSteps := 2000000) only [go_sem, reduceIte, Nat.reduceEqDiff, Nat.reduceAdd, Cy, Cz, CA, CB, CC, CD, CE, List.take_length]
theorem Mg {l : List Int} {i : Nat} {x : Int} (h : l[i]? = some x) : (l.take (i + 1)).sum = (l.take i).sum + x := by
 rw [DK h, List.sum_append]; simp
def ind (l : List Int) : Nat → Int := fun i => if (i : Int) ∈ l then 1 else 0
theorem F5 (l : List Int) : ∀ i, 0 ≤ ind l i ∧ ind l i ≤ 1 := fun i => by unfold ind; split <;> omega
theorem MP : ∀ {l : List Int} {a n : Int}, Bk l a n = true → ∀ x ∈ l, a < x ∧ x < n
 | [], _, _, _, x, hx => by simp at hx
 | y :: l, a, n, h, x, hx => by
  simp only [Bk, Bool.and_eq_true, decide_eq_true_eq] at h
  rcases List.mem_cons.1 hx with rfl | hx
  ·exact h.1
  ·have := MP h.2 x hx; omega
theorem aCW {l : List Int} {k : Nat} {x : Int} (hx : l[k]? = some x) (h0 : 0 ≤ x) : upd (ind (l.take k)) x.toNat 1 = ind (l.take (k + 1)) := by
 funext j
 rw [DK hx]
 simp only [upd, ind, List.mem_append, List.mem_cons, List.not_mem_nil, or_false]
 by_cases e : j = x.toNat
 ·subst e
  have : ((x.toNat : Nat) : Int) = x := by omega
  simp [this]
 ·have : ¬ (j : Int) = x := by omega
  simp [e, this]
theorem aCX (r : Rd) (st bk : Nat → Int) {i : Nat} (h : i < 24) (v : Int) : (C4 r st bk).set (4 + i) (.d (.int .i64 v)) = C4 r (upd st i v) bk := by
 have h1 : (Ar 24 st ++ Ar 40 bk).set i (.int .i64 v) = Ar 24 (upd st i v) ++ Ar 40 bk := by
  rw [List.set_append_left _ _ (by rw [A7]; exact h), F0]
 rw [Nat.add_comm 4 i]
 show _ :: _ :: _ :: _ :: ((Ar 24 st ++ Ar 40 bk).map C.d).set i _ = _
 rw [← List.map_set, h1]; rfl
theorem U1 (r : Rd) (st bk : Nat → Int) : (C4 r st bk).length = 68 := by simp [C4, A7]
set_option maxHeartbeats 1000000 in
theorem Sa (r : Rd) (H : List AB) : Ae Tryz.prog 76 [BF r] H (one (.c (.ptr (H.length + 1) 0)) (H ++ [.cells (AM r), .cells (C4 r zf zf)])) := by
 refine Ux (X := tx) (nt := 6) (rs := [.tmp 2]) Tryz.func76 rfl rfl rfl rfl mo (by kernel_rfl) (fun hf => ?_)
 have hz : List.replicate 64 (C.d (D.int .i64 0)) = (Ar 24 zf ++ Ar 40 zf).map .d := by rfl
 have lc : ∀ x : AB, (H ++ [x])[H.length]? = some x := fun x => List.getElem?_concat_length
 simp (maxSteps := 2000000) only [go_sem, reduceIte, Nat.reduceEqDiff, Nat.reduceAdd, Nat.reduceLeDiff, Nat.reduceBEq, Cy, Cz, CA, CB, CC, CD, CE, BF, AM, Be, Dv, hz, lc, List.length_append, List.append_assoc]
 exact ⟨rfl, rfl⟩
def DB (r : Rd) (l : List Int) : Int := if BU r ≠ 0 then BU r else if FA l r.ps.length = false then 3 else 0
def Hop (r : Rd) (st : Nat → Int) : List AB := [.cells (AM r), .cells (AM r), .cells (C4 r st zf)]
set_option maxHeartbeats 4000000 in
theorem KJ (r : Rd) (l : List Int) (h : DB r l ≠ 0) : BA Tryz.prog 71 [BF r, ints l] (.tup [.c .nilp, I (DB r l)]) := by
 refine pure_wkE (bad := []) (kp := Gd) (X := tx) (nt := 36) (rs := [.tmp 4, .tmp 5]) Tryz.func71 rfl rfl rfl rfl mo (by kernel_rfl) rfl rfl (fun hf => ?_)
 simp (maxSteps := 2000000) only [go_sem, reduceIte, Nat.reduceEqDiff, Nat.reduceAdd, Cy, Cz, CA, CB, CC, CD, CE, BF, AM]
 refine Aj (Eo r) rfl rfl (by first | exact wk_refls _ | (repeat constructor)) ?_
 by_cases h1 : BU r = 0
 ·simp (maxSteps := 2000000) only [go_sem, reduceIte, Nat.reduceEqDiff, Nat.reduceAdd, Nat.reduceBEq, Cy, Cz, CA, CB, CC, CD, CE, h1]
  refine Aj (PY l r.ps.length) rfl rfl (by first | exact wk_refls _ | (repeat constructor)) ?_
  have h2 : FA l r.ps.length = false := by
   cases h3 : FA l r.ps.length with
   | false => rfl
   | true => exact absurd (by simp [DB, h1, h3]) h
  have e : DB r l = 3 := by simp [DB, h1, h2]
  simp (maxSteps := 2000000) only [go_sem, reduceIte, Nat.reduceEqDiff, Nat.reduceAdd, Cy, Cz, CA, CB, CC, CD, CE, h2, e]
 ·have e : DB r l = BU r := by simp [DB, h1]
  simp (maxSteps := 2000000) only [go_sem, reduceIte, Nat.reduceEqDiff, Nat.reduceAdd, Cy, Cz, CA, CB, CC, CD, CE, h1, e]
theorem Ow {r : Rd} {l : List Int} (h : DB r l = 0) : OkR r ∧ FA l r.ps.length = true := by
 have hokr : BU r = 0 := by
  unfold DB at h
  split at h
  ·rename_i h1; exact absurd h h1
  ·rename_i h1; simpa using h1
 refine ⟨UU hokr, ?_⟩
 cases h3 : FA l r.ps.length with
 | true => rfl
 | false => simp [DB, hokr, h3] at h
set_option maxHeartbeats 8000000 in
theorem aFn (r : Rd) (l : List Int) (h : DB r l = 0) (post : V → List AB → Prop) (hk : post (.tup [.c (.ptr 2 0), I 0]) (Hop r (ind l))) : Ae Tryz.prog 71 [BF r, ints l] [] post := by
 obtain ⟨hr, hris⟩ := Ow h
 have hokr := hr.zero
 have hrng := MP hris
 have hlen := hr.len
 refine acall_fitE (bad := []) (kp := Gd) (X := tx) (nt := 36) (rs := [.tmp 4, .tmp 5]) Tryz.func71 rfl rfl rfl rfl mo (by kernel_rfl) (fun hf => ?_)
 have hfit := Fz (hf (ints l) (by simp))
 have hlow : ∀ st, (Hop r st).all (AB.low (Hop r st).length) = true := fun st => by
  simp only [Hop, List.cons_append, List.nil_append, List.all_cons, List.all_nil, AB.low, Do, CM, Bool.and_self]
 have hind0 : ind (l.take 0) = zf := by funext j; simp [ind, zf]
 simp (maxSteps := 2000000) only [go_sem, reduceIte, Nat.reduceEqDiff, Nat.reduceAdd, Cy, Cz, CA, CB, CC, CD, CE, BF, AM]
 refine Aj (Eo r) rfl rfl (by first | exact wk_refls _ | (repeat constructor)) ?_
 simp (maxSteps := 2000000) only [go_sem, reduceIte, Nat.reduceEqDiff, Nat.reduceAdd, Nat.reduceBEq, Cy, Cz, CA, CB, CC, CD, CE, hokr]
 refine Aj (PY l r.ps.length) rfl rfl (by first | exact wk_refls _ | (repeat constructor)) ?_
 simp (maxSteps := 2000000) only [go_sem, reduceIte, Nat.reduceEqDiff, Nat.reduceAdd, Cy, Cz, CA, CB, CC, CD, CE, hris]
 have hn := Sa r ([.cells (AM r)])
 simp only [BF, AM, List.cons_append, List.nil_append] at hn
 refine Az (hn) rfl rfl (by first | exact wk_refls _ | (repeat constructor)) ?_
 simp (maxSteps := 2000000) only [go_sem, reduceIte, Nat.reduceEqDiff, Nat.reduceAdd, Cy, Cz, CA, CB, CC, CD, CE, ints]
 refine goE_loop (bad := []) (kp := Gd) (fun i : Nat => { slots := [(7, .c (.ptr 2 0)), (23, ints l), (24, I l.length), (25, I i)], heap := Hop r (ind (l.take i)), marks := [] }) (fun i => i ≤ l.length) (fun i => l.length - i) 0 mo (by kernel_rfl) ?_ (Nat.zero_le _) ?_
 ·refine ent_weaken [] (by simp only [Hop, hind0, List.append_nil]; rfl) rfl (show 0 ≤ 3 by decide) (hlow _) rfl ?_
  simp (maxSteps := 2000000) only [go_sem, reduceIte, Nat.reduceEqDiff, Nat.reduceAdd, Nat.reduceLT, Cy, Cz, CA, CB, CC, CD, CE, ints, Hop]
  all_goals first | exact .refl _ | exact ⟨.refl _, .refl _⟩ | exact ⟨.refl _, .refl _, .refl _⟩ | exact ⟨.refl _, _, rfl⟩ | exact ⟨_, rfl⟩ | exact ⟨.refl _, [], by simp⟩ | exact ⟨[], by simp⟩
 rintro i hi
 simp (maxSteps := 2000000) only [go_sem, reduceIte, Nat.reduceEqDiff, Nat.reduceAdd, Cy, Cz, CA, CB, CC, CD, CE, ints, Hop]
 refine goE_if (fun h => ?_) (fun h => ?_)
 ·have hlt : i < l.length := by simpa using h
  obtain ⟨x, hx⟩ := Bm hlt
  obtain ⟨x0, x1⟩ := hrng x (List.mem_of_getElem? hx)
  have x0' : 0 ≤ x := by omega
  have c1 : (decide ((0 : Int) ≤ (i : Int)) && decide ((i : Int) < (l.length : Int))) = true := by simp; omega
  have c2 : (decide ((0 : Int) ≤ x) && decide (x < ((24 : Nat) : Int))) = true := by rw [decide_eq_true x0', decide_eq_true (show x < ((24 : Nat) : Int) by omega)]; rfl
  have c3 : decide (4 + x.toNat + 1 ≤ 68) = true := decide_eq_true (by omega)
  have c4 : decide (4 + x.toNat ≤ 67) = true := decide_eq_true (by omega)
  have nl := U1 r (ind (l.take i)) zf
  have ns := aCX r (ind (l.take i)) zf (i := x.toNat) (by omega) 1
  have hst := aCW hx (by omega)
  simp (maxSteps := 2000000) only [go_sem, reduceIte, Nat.reduceEqDiff, Nat.reduceAdd, Nat.reduceLeDiff, Nat.reduceBEq, Cy, Cz, CA, CB, CC, CD, CE, hx, iD, c1, c2, c3, c4, nl, ns, hst, Nat.mul_one, An hlt hfit]
  refine ⟨i + 1, hlt, by omega, ?_⟩
  refine ent_weaken [] (by simp only [Hop, List.append_nil, List.cons_append, List.nil_append]) rfl (show 0 ≤ 3 by decide) (hlow _) rfl ?_
  simp (maxSteps := 2000000) only [go_sem, reduceIte, Nat.reduceEqDiff, Nat.reduceAdd, Nat.reduceLT, Cy, Cz, CA, CB, CC, CD, CE, Hop]
 ·have hi' : i = l.length := by simp at h; omega
  subst hi'
  rw [List.take_length]
  simp (maxSteps := 2000000) only [go_sem, reduceIte, Nat.reduceEqDiff, Nat.reduceAdd, Cy, Cz, CA, CB, CC, CD, CE]
  exact hk
theorem aCY (r : Rd) (st bk : Nat → Int) : CR (C4 r st bk) = some (EJ r st bk) := by
 have := KC (EJ r st bk)
 simpa [C4, EJ] using this
theorem MQ (r : Rd) (l : List Int) (h : DB r l = 0) : BA Tryz.prog 71 [BF r, ints l] (.tup [.c (.dp (EJ r (ind l) zf)), I 0]) := by
 refine ⟨Ae.fzpost (aFn r l h _ ⟨2, C4 r (ind l) zf, EJ r (ind l) zf, .tup [.c (.dp (EJ r (ind l) zf)), I 0], rfl, aCY _ _ _, .tup rfl (fun i x y hx hy => ?_), .refl _⟩), rfl, rfl⟩
 match i, hx, hy with
 | 0, hx, hy =>
  simp at hx hy
  subst hx; subst hy
  exact .c (.ptr 0 (Nat.zero_le _))
 | 1, hx, hy =>
  simp at hx hy
  subst hx; subst hy
  exact .same _
set_option maxHeartbeats 1000000 in
theorem aF3 (r : Rd) (l : List Int) : BA Tryz.prog 28 [BF r, ints l] (.tup [ints (if DB r l = 0 then Jv r (ind l) else []), I (DB r l)]) := by
 refine pure_wkE (bad := []) (kp := U0) (X := tx) (nt := 19) (rs := [.tmp 4, .tmp 5]) Tryz.func28 rfl rfl rfl rfl mo (by kernel_rfl) rfl rfl (fun hf => ?_)
 simp (maxSteps := 2000000) only [go_sem, reduceIte, Nat.reduceEqDiff, Nat.reduceAdd, Cy, Cz, CA, CB, CC, CD, CE, BF, AM]
 by_cases h : DB r l = 0
 ·refine Aj (MQ r l h) rfl rfl (by first | exact wk_refls _ | (repeat constructor)) ?_
  simp (maxSteps := 2000000) only [go_sem, reduceIte, Nat.reduceEqDiff, Nat.reduceAdd, Cy, Cz, CA, CB, CC, CD, CE]
  refine Aj (aF2 r (ind l) zf (Ow h).1 (F5 l)) rfl rfl (by first | exact wk_refls _ | (repeat constructor)) ?_
  simp (maxSteps := 2000000) only [go_sem, reduceIte, Nat.reduceEqDiff, Cy, Cz, CA, CB, CC, CD, CE, h, ints]
 ·refine Aj (KJ r l h) rfl rfl (by first | exact wk_refls _ | (repeat constructor)) ?_
  simp (maxSteps := 2000000) only [go_sem, reduceIte, Nat.reduceEqDiff, Nat.reduceAdd, Cy, Cz, CA, CB, CC, CD, CE, h, ints, List.map_nil]
def CJ (r : Rd) (l : List Int) : Bool := (Jv r (ind l)).all fun k => decide (r.de < k)
def costL (r : Rd) (l : List Int) : Int := costP r (ind l) r.ps.length
theorem TR : ∀ (l : List Int) (m d : Int), decide (DY m l ≤ d) = !(m :: l).all (fun k => decide (d < k))
 | [], m, d => by
  by_cases h : m ≤ d
  ·have : ¬ d < m := by omega
   simp [DY, h, this]
  ·have : d < m := by omega
   simp [DY, h, this]
 | x :: l, m, d => by
  rw [DY, TR l (min m x) d]
  congr 1
  simp only [List.all_cons]
  by_cases h1 : d < m
  ·by_cases h2 : d < x
   ·have : d < min m x := by omega
    simp [h1, h2, this]
   ·have : ¬ d < min m x := by omega
    simp [h2, this]
  ·have : ¬ d < min m x := by omega
   simp [h1, this]
def BV (r : Rd) (l : List Int) : Int := if DB r l ≠ 0 then DB r l else if CJ r l then 0 else 18
theorem KK (r : Rd) (st : Nat → Int) : (Jv r st).length = r.pl.toNat := by simp [Jv]
set_option maxHeartbeats 1000000 in
theorem TS (r : Rd) (l : List Int) : BA Tryz.prog 29 [BF r, ints l] (.tup [I (if BV r l = 0 then costL r l else 0), I (BV r l)]) := by
 refine pure_wkE (bad := []) (kp := P6) (X := tx) (nt := 25) (rs := [.tmp 4, .tmp 5]) Tryz.func29 rfl rfl rfl rfl mo (by kernel_rfl) rfl rfl (fun hf => ?_)
 simp (maxSteps := 2000000) only [go_sem, reduceIte, Nat.reduceEqDiff, Nat.reduceAdd, Cy, Cz, CA, CB, CC, CD, CE, BF, AM]
 by_cases h : DB r l = 0
 ·have hr := (Ow h).1
  refine Aj (MQ r l h) rfl rfl (by first | exact wk_refls _ | (repeat constructor)) ?_
  simp (maxSteps := 2000000) only [go_sem, reduceIte, Nat.reduceEqDiff, Nat.reduceAdd, Cy, Cz, CA, CB, CC, CD, CE]
  obtain ⟨x, xs, hxs⟩ : ∃ x xs, Jv r (ind l) = x :: xs := by
   cases hl : Jv r (ind l) with
   | nil => have h1 := KK r (ind l); rw [hl, List.length_nil] at h1; have := hr.p1; omega
   | cons x xs => exact ⟨x, xs, rfl⟩
  have h1 := aF2 r (ind l) zf hr (F5 l)
  rw [hxs] at h1
  refine D1 (h1) rfl rfl (by first | exact wk_refls _ | (repeat constructor)) (by kernel_rfl) ?_
  simp (maxSteps := 2000000) only [go_sem, reduceIte, Nat.reduceEqDiff, Nat.reduceAdd, Cy, Cz, CA, CB, CC, CD, CE]
  refine D1 (aPQ x xs) rfl rfl (by first | exact wk_refls _ | (repeat constructor)) (by kernel_rfl) ?_
  simp (maxSteps := 2000000) only [go_sem, reduceIte, Nat.reduceEqDiff, Nat.reduceAdd, Nat.reduceLeDiff, Nat.reduceBEq, Cy, Cz, CA, CB, CC, CD, CE]
  have hm : decide (DY x xs ≤ r.de) = !CJ r l := by rw [TR, CJ, hxs]
  rw [hm]
  cases hh : CJ r l with
  | true =>
   have e : BV r l = 0 := by simp [BV, h, hh]
   simp (maxSteps := 2000000) only [go_sem, reduceIte, Nat.reduceEqDiff, Nat.reduceAdd, Cy, Cz, CA, CB, CC, CD, CE]
   refine Aj (aHM r (ind l) zf hr (F5 l)) rfl rfl (by first | exact wk_refls _ | (repeat constructor)) ?_
   simp (maxSteps := 2000000) only [go_sem, reduceIte, Nat.reduceEqDiff, Cy, Cz, CA, CB, CC, CD, CE, e, costL]
  | false =>
   have e : BV r l = 18 := by simp [BV, h, hh]
   simp (maxSteps := 2000000) only [go_sem, reduceIte, Nat.reduceEqDiff, Nat.reduceAdd, Int.reduceEq, Cy, Cz, CA, CB, CC, CD, CE, e]
 ·have e : BV r l = DB r l := by simp [BV, h]
  refine Aj (KJ r l h) rfl rfl (by first | exact wk_refls _ | (repeat constructor)) ?_
  simp (maxSteps := 2000000) only [go_sem, reduceIte, Nat.reduceEqDiff, Nat.reduceAdd, Cy, Cz, CA, CB, CC, CD, CE, h, e]
end Go.Proofs.YtfgdbeijjbijnaaGreatDoor
set_option linter.unusedSimpArgs false
set_option linter.unusedVariables false
set_option maxRecDepth 100000
namespace Go.Proofs.YtfgdbeijjbijnaaGreatDoor
open Go Go.Abs Go.Proofs
def Mh : List (Nat × List Nat) := [(0, [1, 2]), (1, [1, 2, 5]), (2, [1, 2, 5, 6]), (3, [1, 2, 5, 6, 11]), (4, [1, 2, 5, 6]), (5, [1, 2, 5, 6, 18]), (6, [1, 2, 5, 6]), (7, [4])]
theorem Ox : lookK Mh 0 = some [1, 2] ∧ lookK Mh 1 = some [1, 2, 5] ∧ lookK Mh 2 = some [1, 2, 5, 6] ∧ lookK Mh 3 = some [1, 2, 5, 6, 11] ∧ lookK Mh 4 = some [1, 2, 5, 6] ∧ lookK Mh 5 = some [1, 2, 5, 6, 18] ∧ lookK Mh 6 = some [1, 2, 5, 6] ∧ lookK Mh 7 = some [4] := ⟨rfl, rfl, rfl, rfl, rfl, rfl, rfl, rfl⟩
theorem KL {r : Rd} {f g : Nat → Int} (k : Int) : ∀ m, (∀ i, i < m → f i = g i) → litP r f m k = litP r g m k
 | 0, _ => rfl
 | m + 1, h => by simp only [litP, KL k m (fun i hi => h i (by omega)), h m (by omega)]
theorem MR (r : Rd) (k : Int) : ∀ m, litP r zf m k = 0
 | 0 => rfl
 | m + 1 => by simp [litP, MR r k m, zf]
def cost (r : Rd) (l : List Int) : Int := (l.map fun i => (po r i).co).sum
theorem MS {r : Rd} {f g : Nat → Int} : ∀ m, (∀ i, i < m → f i = g i) → costP r f m = costP r g m
 | 0, _ => rfl
 | m + 1, h => by simp only [costP, MS m (fun i hi => h i (by omega)), h m (by omega)]
end Go.Proofs.YtfgdbeijjbijnaaGreatDoor
set_option linter.unusedSimpArgs false
set_option linter.unusedVariables false
set_option maxRecDepth 100000
namespace Go.Proofs.YtfgdbeijjbijnaaGreatDoor
open Go Go.Abs Go.Proofs
structure OkW (r : Rd) (w : W) (N : Int) : Prop where
 st : ∀ i, w.1 i = 0 ∨ w.1 i = 1
 lit : ∀ i : Nat, w.1 i = 1 → i < r.ps.length ∧ As r i < rTo r i
 b0 : ∀ k, 0 ≤ w.2 k
 bN : ∀ k, w.2 k ≤ N
def cr (s : Stp) (p : Nat) : Int := (if (p : Int) < s.to then 1 else 0) - (if (p : Int) < s.fr then 1 else 0)
def Fg (r : Rd) (w : W) (p : Nat) : Int := litP r w.1 r.ps.length p - w.2 p
theorem Ao {r : Rd} {w : W} {s : Stp} : s ∈ Av r w.1 w.2 ↔ (∃ k, k < r.pl.toNat ∧ s = ⟨(k : Int) + 1, k, 0, -1⟩) ∨ (∃ k, k < r.pl.toNat ∧ 0 < w.2 k ∧ s = ⟨k, (k : Int) + 1, 0, -1⟩) ∨ (∃ i, i < r.ps.length ∧ As r i < rTo r i ∧ s = A0 r w.1 i) := by
 simp only [Av, List.mem_append, List.mem_flatMap, List.mem_range, Ep, List.mem_cons, Ea]
 constructor
 ·rintro (⟨k, hk, h | h⟩ | ⟨i, hi, h⟩)
  ·exact .inl ⟨k, hk, h⟩
  ·split at h
   ·rename_i hb; exact .inr (.inl ⟨k, hk, hb, by simpa using h⟩)
   ·simp at h
  ·split at h
   ·rename_i hb; exact .inr (.inr ⟨i, hi, hb, by simpa using h⟩)
   ·simp at h
 ·rintro (⟨k, hk, h⟩ | ⟨k, hk, hb, h⟩ | ⟨i, hi, hb, h⟩)
  ·exact .inl ⟨k, hk, .inl h⟩
  ·exact .inl ⟨k, hk, .inr (by rw [if_pos hb]; simp [h])⟩
  ·exact .inr ⟨i, hi, by rw [if_pos hb]; simp [h]⟩
theorem P7 {r : Rd} {f : Nat → Int} {x : Nat} {v : Int} (p : Int) : ∀ m, x < m → litP r (upd f x v) m p = litP r f m p + if litB r (po r x) p then v - f x else 0
 | 0, h => by omega
 | m + 1, h => by
  simp only [litP]
  by_cases e : x = m
  ·subst e
   rw [KL (f := upd f x v) (g := f) p x (fun i hi => At _ _ (by omega)), Ai]
   split <;> omega
  ·rw [P7 p m (by omega), At _ _ (Ne.symm e)]
   omega
theorem Hy (r : Rd) (i : Nat) (p : Nat) : litB r (po r i) p = true ↔ As r i ≤ p ∧ (p : Int) < rTo r i := by
 simp only [litB, decide_eq_true_eq, As, rTo]; omega
theorem U2 {r : Rd} {w : W} (hr : OkR r) : OkL (Av r w.1 w.2) := by
 refine ⟨FD hr, fun s hs => ?_⟩
 rcases Ao.1 hs with ⟨k, _, rfl⟩ | ⟨k, _, _, rfl⟩ | ⟨i, _, hft, rfl⟩
 ·simp; omega
 ·simp; omega
 ·simp only [A0]; split <;> simp only [] <;> omega
theorem U3 {r : Rd} {w : W} {N : Int} {pi : Nat → Int} {s : Stp} (hr : OkR r) (hw : OkW r w N) (hN : N ≤ 1000000) (hs : s ∈ Av r w.1 w.2) (hrc : RC (Av r w.1 w.2) pi) (ht : pi s.to.toNat = pi s.fr.toNat + s.co) :
  OkW r (Bw s w) (N + 1) ∧ RC (Av r (Bw s w).1 (Bw s w).2) pi ∧ (∀ p, p < r.pl.toNat → Fg r (Bw s w) p = Fg r w p + cr s p) ∧ (∀ t ∈ Av r w.1 w.2, t.to ≠ s.to → t ∈ Av r (Bw s w).1 (Bw s w).2) := by
 have p40 := hr.p40
 rcases Ao.1 hs with ⟨k, hk, rfl⟩ | ⟨k, hk, hb, rfl⟩ | ⟨i, hi, hft, rfl⟩
 ·
  have hbk := hw.b0 k
  have hbN := hw.bN k
  have e : Bw ⟨(k : Int) + 1, k, 0, -1⟩ w = (w.1, upd w.2 k (w.2 k + 1)) := by
   simp only [Bw, ne_eq, not_true, if_false]
   rw [if_pos (by omega)]
   simp only [Int.toNat_natCast]
   rw [BQ (by omega) (by omega)]
  rw [e]
  have hk1 : ((k : Int) + 1).toNat = k + 1 := by omega
  simp only [Int.toNat_natCast, hk1, Int.add_zero] at ht
  refine ⟨⟨hw.st, hw.lit, fun j => ?_, fun j => ?_⟩, fun t ht' => ?_, fun p hp => ?_, fun t ht' hne => ?_⟩
  ·simp only [upd]; split
   ·omega
   ·exact hw.b0 j
  ·simp only [upd]; split
   ·omega
   ·have := hw.bN j; omega
  ·rcases Ao.1 ht' with ⟨k', h1, rfl⟩ | ⟨k', h1, h2, rfl⟩ | ⟨i, h1, h2, rfl⟩
   ·exact hrc _ (Ao.2 (.inl ⟨k', h1, rfl⟩))
   ·by_cases e : k' = k
    ·subst e
     simp only [Int.toNat_natCast, hk1, Int.add_zero]
     omega
    ·simp only [upd, e, if_false] at h2
     exact hrc _ (Ao.2 (.inr (.inl ⟨k', h1, h2, rfl⟩)))
   ·exact hrc _ (Ao.2 (.inr (.inr ⟨i, h1, h2, rfl⟩)))
  ·simp only [Fg, cr, upd]
   by_cases e : p = k
   ·subst e; simp; omega
   ·have h1 : ((p : Int) < (k : Int)) ↔ ((p : Int) < (k : Int) + 1) := by omega
    simp only [e, if_false, h1]; omega
  ·rcases Ao.1 ht' with ⟨k', h1, rfl⟩ | ⟨k', h1, h2, rfl⟩ | ⟨i, h1, h2, rfl⟩
   ·exact Ao.2 (.inl ⟨k', h1, rfl⟩)
   ·refine Ao.2 (.inr (.inl ⟨k', h1, ?_, rfl⟩))
    simp only [upd]; split <;> omega
   ·exact Ao.2 (.inr (.inr ⟨i, h1, h2, rfl⟩))
 ·
  have hbN := hw.bN k
  have e : Bw ⟨k, (k : Int) + 1, 0, -1⟩ w = (w.1, upd w.2 k (w.2 k - 1)) := by
   simp only [Bw, ne_eq, not_true, if_false]
   rw [if_neg (by omega)]
   simp only [Int.toNat_natCast]
   rw [BQ (by omega) (by omega)]
  rw [e]
  have hk1 : ((k : Int) + 1).toNat = k + 1 := by omega
  simp only [Int.toNat_natCast, hk1, Int.add_zero] at ht
  refine ⟨⟨hw.st, hw.lit, fun j => ?_, fun j => ?_⟩, fun t ht' => ?_, fun p hp => ?_, fun t ht' hne => ?_⟩
  ·simp only [upd]; split
   ·omega
   ·exact hw.b0 j
  ·simp only [upd]; split
   ·omega
   ·have := hw.bN j; omega
  ·rcases Ao.1 ht' with ⟨k', h1, rfl⟩ | ⟨k', h1, h2, rfl⟩ | ⟨i, h1, h2, rfl⟩
   ·exact hrc _ (Ao.2 (.inl ⟨k', h1, rfl⟩))
   ·refine hrc _ (Ao.2 (.inr (.inl ⟨k', h1, ?_, rfl⟩)))
    simp only [upd] at h2
    split at h2
    ·rename_i e; subst e; exact hb
    ·exact h2
   ·exact hrc _ (Ao.2 (.inr (.inr ⟨i, h1, h2, rfl⟩)))
  ·simp only [Fg, cr, upd]
   by_cases e : p = k
   ·subst e; simp; omega
   ·have h1 : ((p : Int) < (k : Int)) ↔ ((p : Int) < (k : Int) + 1) := by omega
    simp only [e, if_false, h1]; omega
  ·rcases Ao.1 ht' with ⟨k', h1, rfl⟩ | ⟨k', h1, h2, rfl⟩ | ⟨i, h1, h2, rfl⟩
   ·exact Ao.2 (.inl ⟨k', h1, rfl⟩)
   ·refine Ao.2 (.inr (.inl ⟨k', h1, ?_, rfl⟩))
    simp only at hne
    simp only [upd]; split <;> omega
   ·exact Ao.2 (.inr (.inr ⟨i, h1, h2, rfl⟩))
 ·
  have hlen := hr.len
  have hpo : (A0 r w.1 i).po = (i : Int) := by simp only [A0]; split <;> rfl
  have hst := hw.st i
  have e : Bw (A0 r w.1 i) w = (upd w.1 i (1 - w.1 i), w.2) := by
   simp only [Bw, hpo]
   rw [if_pos (by omega), Int.toNat_natCast, BQ (by omega) (by omega)]
  rw [e]
  have hf0 : 0 ≤ As r i := by
   have := hr.post (i := (i : Int)) (by omega) (by omega)
   have := hr.i0
   simp only [As]; omega
  refine ⟨⟨fun j => ?_, fun j hj => ?_, hw.b0, fun j => by have := hw.bN j; show w.2 j ≤ N + 1; omega⟩, fun t ht' => ?_, fun p hp => ?_, fun t ht' hne => ?_⟩
  ·simp only [upd]; split
   ·omega
   ·exact hw.st j
  ·simp only [upd] at hj
   split at hj
   ·rename_i e; subst e; exact ⟨hi, hft⟩
   ·exact hw.lit j hj
  ·rcases Ao.1 ht' with ⟨k', h1, rfl⟩ | ⟨k', h1, h2, rfl⟩ | ⟨i', h1, h2, rfl⟩
   ·exact hrc _ (Ao.2 (.inl ⟨k', h1, rfl⟩))
   ·exact hrc _ (Ao.2 (.inr (.inl ⟨k', h1, h2, rfl⟩)))
   ·by_cases e : i' = i
    ·subst e
     rcases hst with h | h
     ·have e1 : A0 r w.1 i' = ⟨As r i', rTo r i', (po r i').co, i'⟩ := by simp [A0, h]
      have e2 : A0 r (upd w.1 i' (1 - w.1 i')) i' = ⟨rTo r i', As r i', -(po r i').co, i'⟩ := by simp [A0, h, Ai]
      rw [e1] at ht
      rw [e2]
      simp only at ht ⊢
      omega
     ·have e1 : A0 r w.1 i' = ⟨rTo r i', As r i', -(po r i').co, i'⟩ := by simp [A0, h]
      have e2 : A0 r (upd w.1 i' (1 - w.1 i')) i' = ⟨As r i', rTo r i', (po r i').co, i'⟩ := by simp [A0, h, Ai]
      rw [e1] at ht
      rw [e2]
      simp only at ht ⊢
      omega
    ·have e2 : A0 r (upd w.1 i (1 - w.1 i)) i' = A0 r w.1 i' := by simp [A0, At _ _ e]
     rw [e2]
     exact hrc _ (Ao.2 (.inr (.inr ⟨i', h1, h2, rfl⟩)))
  ·simp only [Fg]
   rw [P7 (p : Int) r.ps.length hi]
   have hb := Hy r i p
   rcases hst with h | h
   ·have e1 : A0 r w.1 i = ⟨As r i, rTo r i, (po r i).co, i⟩ := by simp [A0, h]
    rw [e1]
    simp only [cr, h]
    by_cases hl : litB r (po r i) (p : Int) = true
    ·have := hb.1 hl
     rw [if_pos hl, if_pos this.2, if_neg (by omega)]; omega
    ·have : ¬ (As r i ≤ p ∧ (p : Int) < rTo r i) := fun h => hl (hb.2 h)
     rw [if_neg hl]
     by_cases h3 : (p : Int) < As r i
     ·rw [if_pos h3, if_pos (by omega)]; omega
     ·rw [if_neg h3, if_neg (by omega)]; omega
   ·have e1 : A0 r w.1 i = ⟨rTo r i, As r i, -(po r i).co, i⟩ := by simp [A0, h]
    rw [e1]
    simp only [cr, h]
    by_cases hl : litB r (po r i) (p : Int) = true
    ·have := hb.1 hl
     rw [if_pos hl, if_pos this.2, if_neg (by omega)]; omega
    ·have : ¬ (As r i ≤ p ∧ (p : Int) < rTo r i) := fun h => hl (hb.2 h)
     rw [if_neg hl]
     by_cases h3 : (p : Int) < As r i
     ·rw [if_pos h3, if_pos (by omega)]; omega
     ·rw [if_neg h3, if_neg (by omega)]; omega
  ·rcases Ao.1 ht' with ⟨k', h1, rfl⟩ | ⟨k', h1, h2, rfl⟩ | ⟨i', h1, h2, rfl⟩
   ·exact Ao.2 (.inl ⟨k', h1, rfl⟩)
   ·exact Ao.2 (.inr (.inl ⟨k', h1, h2, rfl⟩))
   ·by_cases e : i' = i
    ·subst e; exact absurd rfl hne
    ·exact Ao.2 (.inr (.inr ⟨i', h1, h2, by simp [A0, At _ _ e]⟩))
end Go.Proofs.YtfgdbeijjbijnaaGreatDoor
set_option linter.unusedSimpArgs false
set_option linter.unusedVariables false
set_option maxRecDepth 100000
namespace Go.Proofs.YtfgdbeijjbijnaaGreatDoor
open Go Go.Abs Go.Proofs
def crS (c : List Stp) (p : Nat) : Int := (c.map (fun s => cr s p)).sum
theorem TT {r : Rd} {pi : Nat → Int} (hr : OkR r) : ∀ {c : List Stp} {w : W} {N : Int}, OkW r w N → N + c.length ≤ 1000000 → (∀ s ∈ c, s ∈ Av r w.1 w.2 ∧ pi s.to.toNat = pi s.fr.toNat + s.co) → c.Pairwise (fun s t => t.to ≠ s.to) → RC (Av r w.1 w.2) pi →
  OkW r (Gs c w) (N + c.length) ∧ RC (Av r (Gs c w).1 (Gs c w).2) pi ∧ ∀ p, p < r.pl.toNat → Fg r (Gs c w) p = Fg r w p + crS c p
 | [], w, N, hw, _, _, _, hrc => ⟨by simpa [Gs] using hw, hrc, fun p _ => by simp [Gs, crS]⟩
 | s :: c, w, N, hw, hN, hs, hd, hrc => by
  rw [List.pairwise_cons] at hd
  rw [List.length_cons] at hN
  obtain ⟨h1, h2, h3, h4⟩ := U3 hr hw (by omega) (hs s (by simp)).1 hrc (hs s (by simp)).2
  obtain ⟨g1, g2, g3⟩ := TT hr (c := c) h1 (by omega) (fun t ht => ⟨h4 t (hs t (by simp [ht])).1 (hd.1 t ht), (hs t (by simp [ht])).2⟩) hd.2 h2
  refine ⟨?_, g2, fun p hp => ?_⟩
  ·have : N + ((s :: c).length : Int) = N + 1 + c.length := by simp; omega
   rw [this]; exact g1
  ·have := g3 p hp
   have h5 := h3 p hp
   show Fg r (Gs c (Bw s w)) p = _
   rw [this, h5]
   simp only [crS, List.map_cons, List.sum_cons]; omega
theorem MT {l : List Stp} {pi : Nat → Int} {q : FS} (hl : OkL l) (hi : Inv l pi q) (hfx : Fix l q.far) (p : Nat) : ∀ {c : List Stp} {v : Nat}, Ch q.by' v c → v ≤ 40 → q.far v ≠ Au → crS c p = if p < v then 1 else 0
 | [], v, h, _, _ => by cases h; simp [crS]
 | s :: c, v, h, hv, hvn => by
  obtain ⟨h1, h2, h3⟩ := aCU hi h hv hvn
  have hs := (TQ hl hi hfx h hv hvn s (by simp)).1
  have ho := hl.ok s hs
  have b0 := ho.f0
  have b1 := ho.f40
  have ih := MT hl hi hfx p h2 (by omega) h3
  simp only [crS, List.map_cons, List.sum_cons] at ih ⊢
  rw [ih]
  simp only [cr, h1]
  have e1 : ((p : Int) < (v : Int)) ↔ p < v := by omega
  have e2 : ((p : Int) < s.fr) ↔ p < s.fr.toNat := by omega
  simp only [e1, e2]
  omega
theorem aHS {l : List Stp} {pi : Nat → Int} {q : FS} (hl : OkL l) (hi : Inv l pi q) (hfx : Fix l q.far) {c : List Stp} {v : Nat} (h : Ch q.by' v c) (hv : v ≤ 40) (hvn : q.far v ≠ Au) : c.length ≤ 41 := by
 have hd := FG hl hi h hv hvn
 have hok := TQ hl hi hfx h hv hvn
 have hnd : (c.map (fun s => s.to.toNat)).Nodup := by
  rw [List.nodup_iff_pairwise_ne, List.pairwise_map]
  refine hd.imp_of_mem (fun {a b} ha hb hne e => hne ?_)
  have h1 := (hl.ok a (hok a ha).1).t0
  have h2 := (hl.ok b (hok b hb).1).t0
  omega
 have := hnd.length_le_of_subset (l₂ := List.range 41) (fun x hx => by
  obtain ⟨s, hs, rfl⟩ := List.mem_map.1 hx
  have h1 := (hl.ok s (hok s hs).1).t0
  have h2 := (hl.ok s (hok s hs).1).t40
  simp; omega)
 simpa using this
theorem KM {r : Rd} {w : W} (hr : OkR r) {s : Stp} (hs : s ∈ Av r w.1 w.2) : s.fr.toNat ≤ r.pl.toNat ∧ s.to.toNat ≤ r.pl.toNat := by
 have p1 := hr.p1
 rcases Ao.1 hs with ⟨k, hk, rfl⟩ | ⟨k, hk, _, rfl⟩ | ⟨i, hi, hft, rfl⟩
 ·refine ⟨?_, ?_⟩ <;> simp only [] <;> omega
 ·refine ⟨?_, ?_⟩ <;> simp only [] <;> omega
 ·have := hr.post (i := (i : Int)) (by omega) (by omega)
  have := hr.i0
  simp only [A0]
  split
  ·simp only [As, rTo] at hft ⊢; omega
  ·simp only [As, rTo] at hft ⊢; omega
def BL (r : Rd) (f : Nat → Int) : Nat → Int := fun v => if v ≤ r.pl.toNat then f v else 0
theorem Sb {r : Rd} {w : W} {pi : Nat → Int} {q : FS} (hr : OkR r) (hi : Inv (Av r w.1 w.2) pi q) (hfx : Fix (Av r w.1 w.2) q.far) {v : Nat} (hv : v < r.pl.toNat) (h : q.far (v + 1) ≠ Au) : q.far v ≠ Au := by
 have p40 := hr.p40
 have hs : (⟨(v : Int) + 1, v, 0, -1⟩ : Stp) ∈ Av r w.1 w.2 := Ao.2 (.inl ⟨v, hv, rfl⟩)
 have e : ((v : Int) + 1).toNat = v + 1 := by omega
 have := hfx _ hs (by simpa only [e] using h)
 simp only [e, Int.toNat_natCast] at this
 have hh := hi.high (v + 1) (by omega) h
 have := Il q.far 41
 have hlt : q.far v < Au := by unfold Au; omega
 intro hn
 omega
theorem KN {r : Rd} {w : W} {pi : Nat → Int} {q : FS} (hr : OkR r) (hi : Inv (Av r w.1 w.2) pi q) (hfx : Fix (Av r w.1 w.2) q.far) {v : Nat} (hv : v ≤ r.pl.toNat) (h : q.far v ≠ Au) : ∀ u, u ≤ v → q.far u ≠ Au := by
 intro u hu
 induction v with
 | zero => have : u = 0 := by omega
           subst this; exact h
 | succ v ih =>
  by_cases e : u = v + 1
  ·subst e; exact h
  ·exact ih (by omega) (Sb hr hi hfx (by omega) h) (by omega)
theorem aCZ {r : Rd} {w : W} {pi : Nat → Int} {q : FS} (hr : OkR r) (hpb : PB pi) (hi : Inv (Av r w.1 w.2) pi q) (hfx : Fix (Av r w.1 w.2) q.far) (h : q.far r.pl.toNat ≠ Au) : PB (BL r q.far) ∧ RC (Av r w.1 w.2) (BL r q.far) := by
 have p40 := hr.p40
 have hall := KN hr hi hfx (Nat.le_refl _) h
 have hrl := Il q.far 41
 refine ⟨⟨by simp [BL, hi.zero], fun v hv => ?_, fun v hv => ?_⟩, fun s hs => ?_⟩
 ·simp only [BL]; split
  ·exact hi.nonneg hpb hv
  ·omega
 ·simp only [BL]; split
  ·rename_i h2
   have := hi.high v hv (hall v h2)
   omega
  ·omega
 ·obtain ⟨h1, h2⟩ := KM hr hs
  simp only [BL, h1, h2, if_true]
  exact hfx s hs (hall _ h1)
def aC0 : Nat → Int := fun _ => 1
theorem TU {r : Rd} {f g : Nat → Int} (p : Int) : ∀ m : Nat, (∀ i : Nat, i < m → litB r (po r i) p = true → f i = g i) → litP r f m p = litP r g m p
 | 0, _ => rfl
 | m + 1, h => by
  simp only [litP, TU p m (fun i hi => h i (by omega))]
  by_cases hb : litB r (po r m) p = true
  ·rw [if_pos hb, if_pos hb, h m (by omega) hb]
  ·rw [if_neg hb, if_neg hb]
theorem aHT {r : Rd} {w : W} {pi : Nat → Int} {q : FS} {N : Int} (hr : OkR r) (hw : OkW r w N) (hi : Inv (Av r w.1 w.2) pi q) (hfx : Fix (Av r w.1 w.2) q.far) (h : q.far r.pl.toNat = Au) : ∃ p, p < r.pl.toNat ∧ litP r aC0 r.ps.length (p : Nat) = Fg r w p := by
 have p40 := hr.p40
 have p1 := hr.p1
 obtain ⟨c, hc, hc1, hc2⟩ : ∃ c, c < r.pl.toNat ∧ q.far c ≠ Au ∧ q.far (c + 1) = Au := by
  have key : ∀ n, q.far n = Au → ∃ c, c < n ∧ q.far c ≠ Au ∧ q.far (c + 1) = Au := by
   intro n
   induction n with
   | zero => intro hn; rw [hi.zero] at hn; exact absurd hn (by decide)
   | succ n ih =>
    intro hn
    by_cases e : q.far n = Au
    ·obtain ⟨c, h1, h2⟩ := ih e; exact ⟨c, by omega, h2⟩
    ·exact ⟨n, by omega, e, hn⟩
  exact key _ h
 have hfin : ∀ s ∈ Av r w.1 w.2, q.far s.fr.toNat ≠ Au → q.far s.to.toNat ≠ Au := fun s hs hn => by
  have h1 := hfx s hs hn
  have ho := FD hr s hs
  have f0 := ho.f0; have f40 := ho.f40; have c1 := ho.c1
  have := hi.high _ (by omega) hn
  have := Il q.far 41
  intro e; rw [e] at h1; unfold Au at h1; omega
 have hb : w.2 c = 0 := by
  have := hw.b0 c
  by_cases h0 : 0 < w.2 c
  ·have hs : (⟨c, (c : Int) + 1, 0, -1⟩ : Stp) ∈ Av r w.1 w.2 := Ao.2 (.inr (.inl ⟨c, hc, h0, rfl⟩))
   have e : ((c : Int) + 1).toNat = c + 1 := by omega
   have := hfin _ hs (by simpa using hc1)
   rw [show ((⟨c, (c : Int) + 1, 0, -1⟩ : Stp)).to.toNat = c + 1 from e] at this
   exact absurd hc2 this
  ·omega
 refine ⟨c, hc, ?_⟩
 rw [Fg, hb, Int.sub_zero]
 refine TU _ _ (fun i hi' hl => ?_)
 rcases hw.st i with h0 | h1
 ·exfalso
  have hlb := (Hy r i c).1 hl
  have hft : As r i < rTo r i := by omega
  have hs : A0 r w.1 i ∈ Av r w.1 w.2 := Ao.2 (.inr (.inr ⟨i, hi', hft, rfl⟩))
  have e : A0 r w.1 i = ⟨As r i, rTo r i, (po r i).co, i⟩ := by simp [A0, h0]
  have hpl := KM hr hs
  rw [e] at hs hpl
  have ho := FD hr _ hs
  have f0 := ho.f0
  simp only at hpl f0
  have hfr := KN hr hi hfx (Nat.le_of_lt hc) hc1 (As r i).toNat (by omega)
  have hto := hfin _ hs hfr
  exact absurd hc2 (KN hr hi hfx hpl.2 hto (c + 1) (by omega))
 ·rw [h1]; rfl
end Go.Proofs.YtfgdbeijjbijnaaGreatDoor
set_option linter.unusedSimpArgs false
set_option linter.unusedVariables false
set_option maxRecDepth 100000
namespace Go.Proofs.YtfgdbeijjbijnaaGreatDoor
open Go Go.Abs Go.Proofs
def Hz (r : Rd) (l : List Int) (i : Int) : Nat → Int
 | 0 => 0
 | m + 1 => Hz r l i m + if litB r (po r i) m then (l[m]?).getD 0 else 0
def KO (r : Rd) (l : List Int) : Nat → Int
 | 0 => (r.de + 1) * l.sum
 | i + 1 => KO r l i - max 0 (Hz r l i l.length - (po r i).co)
def OkX (l : List Int) : Prop := ∀ x ∈ l, 0 ≤ x ∧ x ≤ 1099511627776
theorem P8 {r : Rd} {l : List Int} {i : Int} (hft : ¬ As r i < rTo r i) : ∀ m, Hz r l i m = 0
 | 0 => rfl
 | m + 1 => by
  have hb : litB r (po r i) (m : Int) = false := by
   simp only [litB, decide_eq_false_iff_not]; simp only [As, rTo] at hft; omega
  simp [Hz, P8 hft m, hb]
end Go.Proofs.YtfgdbeijjbijnaaGreatDoor
set_option linter.unusedSimpArgs false
set_option linter.unusedVariables false
set_option maxRecDepth 100000
namespace Go.Proofs.YtfgdbeijjbijnaaGreatDoor
open Go Go.Abs Go.Proofs
def Ec : List (Nat × List Nat) := [(0, [0, 2]), (1, [0, 2, 4]), (2, [0, 2, 4, 14, 15]), (3, [0, 2, 4, 14, 15, 16]), (4, [0, 2, 4, 14, 15]), (5, [0, 2, 4, 5, 14, 15]), (6, [0, 2, 4, 5, 14, 15, 29]), (7, [2, 3]), (8, [0, 2, 4, 5, 6, 14, 15]), (9, [0, 2, 4, 5, 6, 14, 15, 37]), (10, [0, 2, 4, 5, 6, 7, 8, 14, 15]), (11, [0, 2, 4, 5, 6, 7, 14, 15, 45]), (12, [0, 2, 4, 5, 6, 7, 14, 15]), (13, [0, 2, 4, 5, 6, 7, 14, 15, 49]), (14, [2, 3]), (15, [0, 2, 4, 5, 7, 14, 15]), (16, [0, 2, 4, 5, 7, 14, 15]), (17, [0, 2, 4, 5, 6, 14, 15]), (18, [0, 2, 4, 14, 15]), (19, [2, 3])]
theorem Ge : lookK Ec 0 = some [0, 2] ∧ lookK Ec 1 = some [0, 2, 4] ∧ lookK Ec 2 = some [0, 2, 4, 14, 15] ∧ lookK Ec 3 = some [0, 2, 4, 14, 15, 16] ∧ lookK Ec 4 = some [0, 2, 4, 14, 15] ∧ lookK Ec 5 = some [0, 2, 4, 5, 14, 15] ∧ lookK Ec 6 = some [0, 2, 4, 5, 14, 15, 29] ∧ lookK Ec 7 = some [2, 3] ∧ lookK Ec 8 = some [0, 2, 4, 5, 6, 14, 15] ∧ lookK Ec 9 = some [0, 2, 4, 5, 6, 14, 15, 37] ∧ lookK Ec 10 = some [0, 2, 4, 5, 6, 7, 8, 14, 15] ∧ lookK Ec 11 = some [0, 2, 4, 5, 6, 7, 14, 15, 45] ∧ lookK Ec 12 = some [0, 2, 4, 5, 6, 7, 14, 15] ∧ lookK Ec 13 = some [0, 2, 4, 5, 6, 7, 14, 15, 49] ∧ lookK Ec 14 = some [2, 3] ∧ lookK Ec 15 = some [0, 2, 4, 5, 7, 14, 15] ∧ lookK Ec 16 = some [0, 2, 4, 5, 7, 14, 15] ∧ lookK Ec 17 = some [0, 2, 4, 5, 6, 14, 15] ∧ lookK Ec 18 = some [0, 2, 4, 14, 15] ∧ lookK Ec 19 = some [2, 3] := ⟨rfl, rfl, rfl, rfl, rfl, rfl, rfl, rfl, rfl, rfl, rfl, rfl, rfl, rfl, rfl, rfl, rfl, rfl, rfl, rfl⟩
def FPw (r : Rd) (w : W) (f5 : Nat → Int) : FP := ⟨r, w.1, w.2, zf, f5, zf, .skip, .skip⟩
def HS (r : Rd) (w : W) : List AB := [.gl 0 FB, .cells (AM r), .cells (AM r), .cells (C4 r w.1 w.2)]
theorem Ez (r : Rd) (w : W) (n : Nat) : (HS r w).all (AB.low n) = true := by
 simp only [HS, List.all_cons, List.all_nil, AB.low, Do, CM, Bool.and_self]
def HP (r : Rd) (w : W) (far : Nat → Int) (es : List (Int × Stp)) : List AB :=
 [.gl 0 FB, .cells (AM r), .cells (AM r), .cells (C4 r w.1 w.2), .cells (Ac 41 zf), .cells (Ac 41 far), .cells (Ac 41 far), .cells (Ac 41 far), .mp (byE es)]
theorem aC1 (r : Rd) (w : W) (far : Nat → Int) (es : List (Int × Stp)) (n : Nat) : (HP r w far es).all (AB.low n) = true := by
 simp only [HP, List.all_cons, List.all_nil, AB.low, Do, CM, AH, F1, Bool.and_self]
theorem aFo (r : Rd) (w : W) (far : Nat → Int) (es : List (Int × Stp)) (s t : Stp) (hs : OkT s) :
  Ae Tryz.prog 162 [.c (.ptr 3 0), sV s] (HP r w far es ++ [.cells (sC t)]) (one (.tup []) (HP r (Bw s w) far es ++ [.cells (sC t)])) :=
 aHP (FPw r w far) [.cells (Ac 41 zf), .cells (Ac 41 far), .cells (Ac 41 far), .cells (Ac 41 far), .mp (byE es), .cells (sC t)] s hs (fun st bk => by
  simp only [HN, List.all_append, List.all_cons, List.all_nil, AB.low, Do, CM, AH, F1, Bool.and_self]; rfl)
theorem aFp (r : Rd) (w : W) (f5 : Nat → Int) (qf : FS) (n : Nat) (hr : OkR r) (hst : ∀ i, 0 ≤ w.1 i ∧ w.1 i ≤ 1) (hf : C9 (Av r w.1 w.2) n q0 = some qf) :
  Ae Tryz.prog 161 [.c (.ptr 3 0)] (HS r w ++ [.cells (Ac 41 zf), .cells (Ac 41 f5)]) (one (.tup [.agg (Ac 41 qf.far), .c (.mp 8)]) (HS r w ++ [.cells (Ac 41 zf), .cells (Ac 41 f5), .cells (Ac 41 qf.far), .cells (Ac 41 qf.far), .mp (byE qf.by')])) :=
 aHO (FPw r w f5) qf n hr hst hf
theorem OkT.ne {s : Stp} (h : OkT s) : s.po ≠ -2 := fun e => by
 have := h.post (by omega); omega
set_option maxHeartbeats 8000000 in
theorem TV (r : Rd) (w : W) (m : Nat) (b : Bool) (w' : W) (far : Nat → Int) (hr : OkR r) (hst : ∀ i, 0 ≤ w.1 i ∧ w.1 i ≤ 1) (hw : Eb r m (r.de.toNat + 1) w zf = some (b, w', far)) :
  Ae Tryz.prog 77 [.c (.ptr 3 0)] (HS r w) (one (.tup [.agg (Ac 41 far), B b]) (HS r w')) := by
 refine Ae.drop2 (by simp [HS]) rfl (Ez _ _ _) ?_
 refine acall_fitE (bad := []) (kp := Ec) (X := tx) (nt := 60) (rs := [.cell 2 162, .tmp 3]) Tryz.func77 rfl rfl rfl rfl mo (by kernel_rfl) (fun hf' => ?_)
 have hz : List.replicate 41 (C.d (D.int .i64 0)) = Ac 41 zf := by rfl
 have nl := EK r w.1 w.2
 have n1 := nC1 r w.1 w.2
 have d0 := hr.d0
 have d2 := hr.d2
 have p1 := hr.p1
 have p40 := hr.p40
 have wd : wr .i64 (r.de + 1) = r.de + 1 := BQ (by omega) (by omega)
 simp (maxSteps := 2000000) only [go_sem, reduceIte, Nat.reduceEqDiff, Nat.reduceAdd, Nat.reduceLeDiff, Nat.reduceBEq, Ge, HS, hz, nl, n1, wd]
 refine goE_loop (bad := []) (kp := Ec) (fun a : Nat × W × (Nat → Int) => { slots := [(0, .c (.ptr 3 0)), (2, .c (.ptr 4 0)), (4, .c (.ptr 5 0)), (14, I (r.de + 1)), (15, I (a.1 : Int))], heap := HS r a.2.1 ++ [.cells (Ac 41 zf), .cells (Ac 41 a.2.2)], marks := [] })
  (fun a => a.1 ≤ r.de.toNat + 1 ∧ (∀ i, 0 ≤ a.2.1.1 i ∧ a.2.1.1 i ≤ 1) ∧ Eb r m (r.de.toNat + 1 - a.1) a.2.1 a.2.2 = some (b, w', far)) (fun a => r.de.toNat + 1 - a.1) (0, w, zf) mo (by kernel_rfl) ?_ ⟨Nat.zero_le _, hst, hw⟩ ?_
 ·refine ent_weaken [] (by simp only [HS, List.append_nil]; rfl) rfl (show 4 ≤ 6 by decide) (by rw [List.all_append, Ez]; simp only [List.all_cons, List.all_nil, AB.low, AH, Bool.and_self]) rfl ?_
  simp (maxSteps := 2000000) only [go_sem, reduceIte, Nat.reduceEqDiff, Nat.reduceAdd, Nat.reduceLT, Ge, HS]
  all_goals first | exact .refl _ | exact ⟨.refl _, .refl _⟩ | exact ⟨.refl _, .refl _, .refl _⟩ | exact ⟨.refl _, _, rfl⟩ | exact ⟨_, rfl⟩ | exact ⟨.refl _, [], by simp⟩ | exact ⟨[], by simp⟩
 clear hst hw nl n1
 rintro ⟨k, w, f5⟩ ⟨hk, hst, hw⟩
 simp only at hk hst hw
 simp (maxSteps := 2000000) only [go_sem, reduceIte, Nat.reduceEqDiff, Nat.reduceAdd, Ge, HS]
 refine goE_if (fun h => ?_) (fun h => ?_)
 ·have hlt : k < r.de.toNat + 1 := by simp at h; omega
  have hsub : r.de.toNat + 1 - k = (r.de.toNat - k) + 1 := by omega
  rw [hsub, Eb] at hw
  cases hfd : C9 (Av r w.1 w.2) m q0 with
  | none => rw [hfd] at hw; cases hw
  | some q =>
  rw [hfd] at hw
  simp only at hw
  have hl := aFp r w f5 q m hr hst hfd
  simp only [HS, List.cons_append, List.nil_append] at hl
  simp (maxSteps := 2000000) only [go_sem, reduceIte, Nat.reduceEqDiff, Nat.reduceAdd, Ge]
  refine Az (hl) rfl rfl (by first | exact wk_refls _ | (repeat constructor)) ?_
  have nl := EK r w.1 w.2
  have n0 := nC0 r w.1 w.2
  have gl := Ah 41 q.far
  have g1 := AY q.far (j := r.pl.toNat) (n := 41) (by omega)
  have c1 : (decide ((0 : Int) ≤ r.pl) && decide (r.pl < ((41 : Nat) : Int))) = true := by simp; omega
  have c2 : decide (r.pl.toNat + 1 ≤ 41) = true := by simp; omega
  have c2' : decide (r.pl.toNat ≤ 40) = true := by simp; omega
  have gl5 := Ah 41 f5
  simp (maxSteps := 2000000) only [go_sem, reduceIte, Nat.reduceEqDiff, Nat.reduceLeDiff, Nat.reduceBEq, Ge, Er, nl, n0, gl, gl5, g1, c1, c2, c2', Nat.mul_one]
  by_cases hnev : q.far r.pl.toNat = Au
  ·rw [if_pos hnev] at hw
   simp only [Option.some.injEq, Prod.mk.injEq] at hw
   obtain ⟨rfl, rfl, rfl⟩ := hw
   have hnev' : q.far r.pl.toNat = 1125899906842624 := hnev
   have glz := Ah 41 zf
   simp (maxSteps := 2000000) only [go_sem, reduceIte, Nat.reduceEqDiff, Nat.reduceAdd, Ge, hnev', hz, Er, glz, EM, Be]
   exact ⟨_, rfl⟩
  have hnev' : ¬ q.far r.pl.toNat = 1125899906842624 := hnev
  rw [if_neg hnev] at hw
  have hby : ∀ e ∈ q.by', OkT e.2 := P1 (P := OkT) (UX hr) hfd (fun e he => by cases he)
  cases hpt : EN m r.pl q.by' w with
  | none => rw [hpt] at hw; cases hw
  | some res =>
  rw [hpt] at hw
  simp (maxSteps := 2000000) only [go_sem, reduceIte, Nat.reduceEqDiff, Nat.reduceAdd, Nat.reduceLeDiff, Nat.reduceBEq, Ge, hnev', nl, n0]
  refine goE_loop (bad := []) (kp := Ec) (fun a : Nat × Int × List (Int × Stp) × W => { slots := [(0, .c (.ptr 3 0)), (2, .c (.ptr 4 0)), (4, .c (.ptr 5 0)), (5, .c (.mp 8)), (6, I a.2.1), (14, I (r.de + 1)), (15, I (k : Int))], heap := HP r a.2.2.2 q.far a.2.2.1, marks := [] })
   (fun a => (∀ i, 0 ≤ a.2.2.2.1 i ∧ a.2.2.2.1 i ≤ 1) ∧ (∀ e ∈ a.2.2.1, OkT e.2) ∧ EN a.1 a.2.1 a.2.2.1 a.2.2.2 = some res) (fun a => a.1) (m, r.pl, q.by', w) mo (by kernel_rfl) ?_ ⟨hst, hby, hpt⟩ ?_
  ·refine ent_weaken [] (by simp only [HP, List.append_nil]) rfl (show 4 ≤ 9 by decide) (aC1 _ _ _ _ _) rfl ?_
   simp (maxSteps := 2000000) only [go_sem, reduceIte, Nat.reduceEqDiff, Nat.reduceAdd, Nat.reduceLT, Ge, HP]
  clear hpt hby hst hfd hl h
  rintro ⟨n, at', es, w⟩ ⟨hst, hby, hpt⟩
  simp only at hst hby hpt
  cases n with
  | zero => cases hpt
  | succ n =>
  simp (maxSteps := 2000000) only [go_sem, reduceIte, Nat.reduceEqDiff, Nat.reduceAdd, Ge, HP]
  refine goE_if (fun h => ?_) (fun h => ?_)
  ·have hat : at' ≠ 0 := by simpa using h
   rw [EN, if_neg hat] at hpt
   cases hfn : fnd at' es 0 with
   | none =>
    rw [hfn] at hpt
    cases hpt
    have hw : some (false, w, zf) = some (b, w', far) := hw
    cases hw
    have glz := Ah 41 zf
    simp (maxSteps := 2000000) only [go_sem, reduceIte, Nat.reduceEqDiff, Nat.reduceAdd, Int.reduceNeg, Ge, F4, hfn, Cn, Mp, L5, FB, BZ, eqC, hz, Er, glz, EM, Be, Option.isSome_none, decide_eq_true_eq]
    exact ⟨_, rfl⟩
   | some is =>
    obtain ⟨i, s⟩ := is
    rw [hfn] at hpt
    have hpt : EN n s.fr (Fx at' es) (Bw s w) = some res := hpt
    have hdel : ∀ x, aET (byE es) (some (i, x)) = byE (Fx at' es) := fun x => by
     simp only [aET, Fx, hfn, byE]; exact MM _ _ _
    have hs : OkT s := hby (at', s) (TL hfn)
    have hne := hs.ne
    simp (maxSteps := 2000000) only [go_sem, reduceIte, Nat.reduceEqDiff, Nat.reduceAdd, Int.reduceNeg, Ge, F4, hfn, Cn, Mp, L5, FB, BZ, eqC, sV, sC, hne, hdel]
    have hl2 := aFo r w q.far (Fx at' es) s s hs
    simp only [HP, sV, sC, List.cons_append, List.nil_append, FB] at hl2
    refine Az (hl2) rfl rfl (by first | exact wk_refls _ | (repeat constructor)) ?_
    simp (maxSteps := 2000000) only [go_sem, reduceIte, Nat.reduceEqDiff, Nat.reduceAdd, Nat.reduceLeDiff, Nat.reduceBEq, Int.reduceNeg, Ge]
    refine ⟨(n, s.fr, Fx at' es, Bw s w), ⟨P2 hst, fun e he => hby e (aCP he), hpt⟩, Nat.lt_succ_self n, ?_⟩
    refine ent_weaken [AB.cells (sC s)] (by simp only [HP, sC]; rfl) rfl (show 4 ≤ 9 by decide) (aC1 _ _ _ _ _) rfl ?_
    simp (maxSteps := 2000000) only [go_sem, reduceIte, Nat.reduceEqDiff, Nat.reduceAdd, Nat.reduceLT, Int.reduceNeg, Ge, HP]
  ·have hat : at' = 0 := by simpa using h
   rw [EN, if_pos hat] at hpt
   cases hpt
   have hw : Eb r m (r.de.toNat - k) w q.far = some (b, w', far) := hw
   simp (maxSteps := 2000000) only [go_sem, reduceIte, Nat.reduceEqDiff, Nat.reduceAdd, Ge, An hlt (show r.de.toNat + 1 ≤ 140737488355328 by omega)]
   refine ⟨(k + 1, w, q.far), ⟨by omega, hst, by rw [show r.de.toNat + 1 - (k + 1) = r.de.toNat - k by omega]; exact hw⟩, by omega, ?_⟩
   refine ent_weaken [AB.cells (Ac 41 q.far), AB.cells (Ac 41 q.far), AB.mp (byE es)] (by simp only [HS]; rfl) rfl (show 4 ≤ 6 by decide) (by simp only [List.all_cons, List.all_nil, AB.low, AH, Do, CM, Bool.and_self]) rfl ?_
   simp (maxSteps := 2000000) only [go_sem, reduceIte, Nat.reduceEqDiff, Nat.reduceAdd, Nat.reduceLT, Ge, HS]
 ·have hk' : k = r.de.toNat + 1 := by simp at h; omega
  subst hk'
  rw [Nat.sub_self, Eb] at hw
  simp only [Option.some.injEq, Prod.mk.injEq] at hw
  obtain ⟨rfl, rfl, rfl⟩ := hw
  have gl5 := Ah 41 f5
  simp (maxSteps := 2000000) only [go_sem, reduceIte, Nat.reduceEqDiff, Nat.reduceAdd, Ge, Er, gl5, EM, Ah]
  exact ⟨_, rfl⟩
end Go.Proofs.YtfgdbeijjbijnaaGreatDoor
set_option linter.unusedSimpArgs false
set_option linter.unusedVariables false
set_option maxRecDepth 100000
namespace Go.Proofs.YtfgdbeijjbijnaaGreatDoor
open Go Go.Abs Go.Proofs
def KP : List (Nat × List Nat) := [(0, [0]), (1, [0, 3]), (2, [0, 3, 10, 11]), (3, [0, 3, 10, 11, 12]), (4, [0, 3, 4, 10, 11]), (5, [0, 3, 4, 10, 11, 20]), (6, [0, 3, 10, 11]), (7, [0, 3, 10, 11]), (8, [2])]
theorem GO : lookK KP 0 = some [0] ∧ lookK KP 1 = some [0, 3] ∧ lookK KP 2 = some [0, 3, 10, 11] ∧ lookK KP 3 = some [0, 3, 10, 11, 12] ∧ lookK KP 4 = some [0, 3, 4, 10, 11] ∧ lookK KP 5 = some [0, 3, 4, 10, 11, 20] ∧ lookK KP 6 = some [0, 3, 10, 11] ∧ lookK KP 7 = some [0, 3, 10, 11] ∧ lookK KP 8 = some [2] := ⟨rfl, rfl, rfl, rfl, rfl, rfl, rfl, rfl, rfl⟩
def DC (st : Nat → Int) : Nat → List Int
 | 0 => []
 | m + 1 => DC st m ++ (if st m = 1 then [(m : Int)] else [])
theorem P9 (st : Nat → Int) : ∀ m, (DC st m).length ≤ m
 | 0 => by simp [DC]
 | m + 1 => by have := P9 st m; simp only [DC, List.length_append]; split <;> simp <;> omega
set_option maxHeartbeats 2000000 in
theorem aC2 (r : Rd) (w : W) (hr : OkR r) : Ae Tryz.prog 78 [.c (.ptr 3 0)] (HS r w) (one (ints (DC w.1 r.ps.length)) (HS r w)) := by
 refine acall_atE (bad := []) (kp := KP) (X := tx) (nt := 27) (rs := [.tmp 2]) Tryz.func78 rfl rfl rfl rfl mo (by kernel_rfl) rfl (Ez _ _ _) (fun hf => ?_)
 have hlen := hr.len
 have nl := EK r w.1 w.2
 have n3 := nC3 r w.1 w.2
 simp (maxSteps := 2000000) only [go_sem, reduceIte, Nat.reduceEqDiff, Nat.reduceAdd, Nat.reduceLeDiff, Nat.reduceBEq, GO, HS, nl, n3]
 have hlow : ∀ n, (HS r w ++ [AB.grow n 1]).all (AB.low (HS r w ++ [AB.grow n 1]).length) = true := fun n => by rw [List.all_append, Ez]; rfl
 refine goE_loop (bad := []) (kp := KP) (fun i : Nat => { slots := [(0, .c (.ptr 3 0)), (3, .c (.own 4 ((DC w.1 i).map iD))), (10, I r.ps.length), (11, I i)], heap := HS r w ++ [.grow (DC w.1 i).length 1], marks := [] }) (fun i => i ≤ r.ps.length) (fun i => r.ps.length - i) 0 mo (by kernel_rfl) ?_ (Nat.zero_le _) ?_
 ·refine Ent.trans (ent_own 3 1 rfl) ?_
  refine ent_weaken [] (by simp only [HS, List.append_nil, DC]; rfl) rfl (show 4 ≤ 5 by decide) (hlow _) rfl ?_
  simp (maxSteps := 2000000) only [go_sem, reduceIte, Nat.reduceEqDiff, Nat.reduceAdd, Nat.reduceLT, GO, HS, DC, B5, List.map_nil]
  all_goals first | exact .refl _ | exact ⟨.refl _, .refl _⟩ | exact ⟨.refl _, .refl _, .refl _⟩ | exact ⟨.refl _, _, rfl⟩ | exact ⟨_, rfl⟩ | exact ⟨.refl _, [], by simp⟩ | exact ⟨[], by simp⟩
 rintro i hi
 simp (maxSteps := 2000000) only [go_sem, reduceIte, Nat.reduceEqDiff, Nat.reduceAdd, GO, HS, B5]
 refine goE_if (fun h => ?_) (fun h => ?_)
 ·have hlt : i < r.ps.length := by simpa using h
  have ng := aFf r w.1 w.2 (i := i) (by omega)
  have c2 : (decide ((0 : Int) ≤ (i : Int)) && decide ((i : Int) < ((24 : Nat) : Int))) = true := by simp; omega
  have c3 : decide (4 + i + 1 ≤ 68) = true := decide_eq_true (by omega)
  have c4 : decide (4 + i ≤ 67) = true := decide_eq_true (by omega)
  have hcl := P9 w.1 i
  by_cases h1 : w.1 i = 1
  ·have hs : DC w.1 (i + 1) = DC w.1 i ++ [(i : Int)] := by simp [DC, h1]
   simp (maxSteps := 2000000) only [go_sem, reduceIte, Nat.reduceEqDiff, Nat.reduceAdd, Nat.reduceLT, Nat.reduceLeDiff, Nat.reduceBEq, GO, nl, ng, c2, c3, c4, h1, Nat.mul_one, iD, bound]
   refine ⟨by simp; omega, ?_⟩
   simp (maxSteps := 2000000) only [go_sem, GO, An hlt (show r.ps.length ≤ 140737488355328 by omega)]
   refine ⟨i + 1, hlt, by omega, ?_⟩
   refine ent_weaken [] (by simp only [HS, hs, List.append_nil, List.length_append]; rfl) rfl (show 4 ≤ 5 by decide) (hlow _) rfl ?_
   simp (maxSteps := 2000000) only [go_sem, reduceIte, Nat.reduceEqDiff, Nat.reduceAdd, Nat.reduceLT, GO, HS, hs, List.map_append, iD]
   all_goals first | exact .refl _ | exact ⟨.refl _, .refl _⟩ | exact ⟨.refl _, .refl _, .refl _⟩ | exact ⟨.refl _, _, rfl⟩ | exact ⟨_, rfl⟩ | exact ⟨.refl _, [], by simp⟩ | exact ⟨[], by simp⟩
  ·have hs : DC w.1 (i + 1) = DC w.1 i := by simp [DC, h1]
   simp (maxSteps := 2000000) only [go_sem, reduceIte, Nat.reduceEqDiff, Nat.reduceAdd, Nat.reduceLeDiff, Nat.reduceBEq, GO, nl, ng, c2, c3, c4, h1, Nat.mul_one, An hlt (show r.ps.length ≤ 140737488355328 by omega)]
   refine ⟨i + 1, hlt, by omega, ?_⟩
   refine ent_weaken [] (by simp only [HS, hs, List.append_nil, List.cons_append, List.nil_append]) rfl (show 4 ≤ 5 by decide) (hlow _) rfl ?_
   simp (maxSteps := 2000000) only [go_sem, reduceIte, Nat.reduceEqDiff, Nat.reduceAdd, Nat.reduceLT, GO, HS, hs]
 ·have hi' : i = r.ps.length := by simp at h; omega
  subst hi'
  simp (maxSteps := 2000000) only [go_sem, reduceIte, Nat.reduceEqDiff, Nat.reduceAdd, GO, ints]
  exact ⟨_, rfl⟩
set_option maxHeartbeats 2000000 in
theorem aFq (r : Rd) (w : W) (hr : OkR r) (hs : ∀ i, 0 ≤ w.1 i ∧ w.1 i ≤ 1) : Ae Tryz.prog 74 [.c (.ptr 3 0)] (HS r w) (one (I (costP r w.1 r.ps.length)) (HS r w)) := by
 refine acall_atE (bad := []) (kp := Ju) (X := tx) (nt := 30) (rs := [.tmp 2]) Tryz.func74 rfl rfl rfl rfl mo (by kernel_rfl) rfl (Ez _ _ _) (fun hf => ?_)
 have hlen := hr.len
 have nl := EK r w.1 w.2
 have n3 := nC3 r w.1 w.2
 simp (maxSteps := 2000000) only [go_sem, reduceIte, Nat.reduceEqDiff, Nat.reduceAdd, Nat.reduceLeDiff, Nat.reduceBEq, GO, HS, nl, n3, CP]
 refine goE_loop (bad := []) (kp := Ju) (fun i : Nat => { slots := [(0, .c (.ptr 3 0)), (3, I (costP r w.1 i)), (10, B5 r.ps), (11, I r.ps.length), (12, I i)], heap := HS r w, marks := [] }) (fun i => i ≤ r.ps.length) (fun i => r.ps.length - i) 0 mo (by kernel_rfl) ?_ (Nat.zero_le _) ?_
 ·refine ent_weaken [] (by simp only [HS, List.append_nil]) rfl (show 4 ≤ 4 by decide) (Ez _ _ _) rfl ?_
  simp (maxSteps := 2000000) only [go_sem, reduceIte, Nat.reduceEqDiff, Nat.reduceAdd, Nat.reduceLT, GO, HS, B5, costP]
  all_goals first | exact .refl _ | exact ⟨.refl _, .refl _⟩ | exact ⟨.refl _, .refl _, .refl _⟩ | exact ⟨.refl _, _, rfl⟩ | exact ⟨_, rfl⟩ | exact ⟨.refl _, [], by simp⟩ | exact ⟨[], by simp⟩
 rintro i hi
 simp (maxSteps := 2000000) only [go_sem, reduceIte, Nat.reduceEqDiff, Nat.reduceAdd, GO, HS, B5, CP]
 refine goE_if (fun h => ?_) (fun h => ?_)
 ·have hlt : i < r.ps.length := by simpa using h
  obtain ⟨hp, _, _, _, q3, q4⟩ := hr.post (i := (i : Int)) (by omega) (by omega)
  have hp : r.ps[i]? = some (po r i) := hp
  have b1 := Dq hr hs i hi
  have b3 := Dq hr hs (i + 1) hlt
  have b2 := hs i
  have ng := aFf r w.1 w.2 (i := i) (by omega)
  have w1 : wr .i64 ((po r i).co * w.1 i) = (po r i).co * w.1 i := by
   have : w.1 i = 0 ∨ w.1 i = 1 := by omega
   rcases this with e | e <;> rw [e] <;> exact BQ (by omega) (by omega)
  have w2 : wr .i64 (costP r w.1 i + (po r i).co * w.1 i) = costP r w.1 (i + 1) := by
   rw [costP] at b3
   rw [costP]; exact BQ (by omega) (by omega)
  have c2 : (decide ((0 : Int) ≤ (i : Int)) && decide ((i : Int) < ((24 : Nat) : Int))) = true := by simp; omega
  have c3 : decide (4 + i + 1 ≤ 68) = true := decide_eq_true (by omega)
  have c4 : decide (4 + i ≤ 67) = true := decide_eq_true (by omega)
  have c6 : (decide ((0 : Int) ≤ (i : Int)) && decide ((i : Int) < (r.ps.length : Int))) = true := by simp; omega
  simp (maxSteps := 2000000) only [go_sem, reduceIte, Nat.reduceEqDiff, Nat.reduceAdd, Nat.reduceLeDiff, Nat.reduceBEq, GO, hp, pD, ng, nl, w1, w2, c2, c3, c4, c6, Nat.mul_one, CP, An hlt (show r.ps.length ≤ 140737488355328 by omega)]
  refine ⟨i + 1, hlt, by omega, ?_⟩
  refine ent_weaken [.cells (pC (po r i))] rfl rfl (show 4 ≤ 4 by decide) (Ez r w _) rfl ?_
  simp (maxSteps := 2000000) only [go_sem, reduceIte, Nat.reduceEqDiff, Nat.reduceAdd, Nat.reduceLT, GO, HS]
 ·have hi' : i = r.ps.length := by simp at h; omega
  simp (maxSteps := 2000000) only [go_sem, reduceIte, Nat.reduceEqDiff, Nat.reduceAdd, GO, hi', CP]
  try exact ⟨[], by simp⟩
end Go.Proofs.YtfgdbeijjbijnaaGreatDoor
set_option linter.unusedSimpArgs false
set_option linter.unusedVariables false
set_option maxRecDepth 100000
namespace Go.Proofs.YtfgdbeijjbijnaaGreatDoor
open Go Go.Abs Go.Proofs
def Mi : List (Nat × List Nat) := [(0, [1]), (1, [1, 5]), (2, [1, 5, 12]), (3, [2, 3, 4]), (4, [6]), (5, [6, 8]), (6, [6, 22]), (7, [2, 3, 4]), (8, [2, 3, 4])]
theorem Qa : lookK Mi 0 = some [1] ∧ lookK Mi 1 = some [1, 5] ∧ lookK Mi 2 = some [1, 5, 12] ∧ lookK Mi 3 = some [2, 3, 4] ∧ lookK Mi 4 = some [6] ∧ lookK Mi 5 = some [6, 8] ∧ lookK Mi 6 = some [6, 22] ∧ lookK Mi 7 = some [2, 3, 4] ∧ lookK Mi 8 = some [2, 3, 4] := ⟨rfl, rfl, rfl, rfl, rfl, rfl, rfl, rfl, rfl⟩
def GH : List AB := [.gl 0 FB]
def zw : W := (zf, zf)
set_option maxHeartbeats 4000000 in
theorem Sc (r : Rd) (m : Nat) (b : Bool) (w' : W) (far : Nat → Int) (hr : OkR r) (hw : Eb r m (r.de.toNat + 1) zw zf = some (b, w', far)) (hst : ∀ i, 0 ≤ w'.1 i ∧ w'.1 i ≤ 1) :
  Ae Tryz.prog 30 [BF r] GH (one (.tup [ints (if b then DC w'.1 r.ps.length else []), I (if b then costP r w'.1 r.ps.length else 0), I (if b then 0 else 18)]) GH) := by
 refine acall_atE (bad := []) (kp := Mi) (X := tx) (nt := 27) (rs := [.tmp 2, .tmp 3, .tmp 4]) Tryz.func30 rfl rfl rfl rfl mo (by kernel_rfl) rfl rfl (fun hf => ?_)
 have hokr := hr.zero
 simp (maxSteps := 2000000) only [go_sem, reduceIte, Nat.reduceEqDiff, Nat.reduceAdd, Qa, BF, AM, GH]
 refine Aj (Eo r) rfl rfl (by first | exact wk_refls _ | (repeat constructor)) ?_
 simp (maxSteps := 2000000) only [go_sem, reduceIte, Nat.reduceEqDiff, Nat.reduceAdd, Qa, hokr]
 have hn := Sa r [.gl 0 FB, .cells (AM r)]
 simp only [BF, AM, List.cons_append, List.nil_append] at hn
 refine Az (hn) rfl rfl (by first | exact wk_refls _ | (repeat constructor)) ?_
 simp (maxSteps := 2000000) only [go_sem, reduceIte, Nat.reduceEqDiff, Nat.reduceAdd, Qa]
 have hs := TV r zw m b w' far hr (fun i => by simp [zw, zf]) hw
 simp only [HS, AM, zw] at hs
 refine Az (hs) rfl rfl (by first | exact wk_refls _ | (repeat constructor)) ?_
 have hz : List.replicate 41 (C.d (D.int .i64 0)) = Ac 41 zf := by rfl
 simp (maxSteps := 2000000) only [go_sem, reduceIte, Nat.reduceEqDiff, Nat.reduceAdd, Qa, Er, hz, Ah]
 cases b with
 | false =>
  simp (maxSteps := 2000000) only [go_sem, reduceIte, Nat.reduceEqDiff, Nat.reduceAdd, Qa, ints, List.map_nil]
  try exact ⟨_, rfl⟩
 | true =>
  have h1 := (aC2 r w' hr).frame (Ez _ _ _) rfl rfl [AB.cells (Ac 41 far)]
  have h2 := (aFq r w' hr hst).frame (Ez _ _ _) rfl rfl [AB.cells (Ac 41 far)]
  simp only [HS, AM, List.cons_append, List.nil_append] at h1 h2
  simp (maxSteps := 2000000) only [go_sem, reduceIte, Nat.reduceEqDiff, Nat.reduceAdd, Qa]
  refine Az (h1) rfl rfl (by first | exact wk_refls _ | (repeat constructor)) ?_
  simp (maxSteps := 2000000) only [go_sem, reduceIte, Nat.reduceEqDiff, Qa]
  refine Az (h2) rfl rfl (by first | exact wk_refls _ | (repeat constructor)) ?_
  simp (maxSteps := 2000000) only [go_sem, reduceIte, Nat.reduceEqDiff, Qa, ints]
  try exact ⟨_, rfl⟩
end Go.Proofs.YtfgdbeijjbijnaaGreatDoor
set_option linter.unusedSimpArgs false
set_option linter.unusedVariables false
set_option maxRecDepth 100000
namespace Go.Proofs.YtfgdbeijjbijnaaGreatDoor
open Go Go.Abs Go.Proofs
def Gf : List (Nat × List Nat) := [(0, [1]), (1, [1, 4]), (2, [1, 4, 12]), (3, [2, 3]), (4, [1, 5, 6]), (5, [1, 5, 21]), (6, [2, 3]), (7, [1, 5, 7]), (8, [5, 7, 23, 24]), (9, [5, 7, 23, 24, 25]), (10, [5, 7, 8, 23, 24]), (11, [5, 7, 23, 24]), (12, [5, 7, 23, 24]), (13, [2, 3])]
theorem KQ : lookK Gf 0 = some [1] ∧ lookK Gf 1 = some [1, 4] ∧ lookK Gf 2 = some [1, 4, 12] ∧ lookK Gf 3 = some [2, 3] ∧ lookK Gf 4 = some [1, 5, 6] ∧ lookK Gf 5 = some [1, 5, 21] ∧ lookK Gf 6 = some [2, 3] ∧ lookK Gf 7 = some [1, 5, 7] ∧ lookK Gf 8 = some [5, 7, 23, 24] ∧ lookK Gf 9 = some [5, 7, 23, 24, 25] ∧ lookK Gf 10 = some [5, 7, 8, 23, 24] ∧ lookK Gf 11 = some [5, 7, 23, 24] ∧ lookK Gf 12 = some [5, 7, 23, 24] ∧ lookK Gf 13 = some [2, 3] := ⟨rfl, rfl, rfl, rfl, rfl, rfl, rfl, rfl, rfl, rfl, rfl, rfl, rfl, rfl⟩
def EZ (far : Nat → Int) (n : Nat) : List Int := (List.range n).map fun k => wr .i64 (far (k + 1) - far k)
theorem U4 (far : Nat → Int) (n : Nat) : EZ far (n + 1) = EZ far n ++ [wr .i64 (far (n + 1) - far n)] := by simp [EZ, List.range_succ]
theorem HA (far : Nat → Int) (n : Nat) : (EZ far n).length = n := by simp [EZ]
set_option maxHeartbeats 4000000 in
theorem aC3 (r : Rd) (m : Nat) (b : Bool) (w' : W) (far : Nat → Int) (hr : OkR r) (hw : Eb r m (r.de.toNat + 1) zw zf = some (b, w', far)) :
  Ae Tryz.prog 35 [BF r] GH (one (.tup [ints (if b then EZ far r.pl.toNat else []), I (if b then 0 else 18)]) GH) := by
 refine acall_atE (bad := []) (kp := Gf) (X := tx) (nt := 40) (rs := [.tmp 2, .tmp 3]) Tryz.func35 rfl rfl rfl rfl mo (by kernel_rfl) rfl rfl (fun hf => ?_)
 have hokr := hr.zero
 have p1 := hr.p1
 have p40 := hr.p40
 simp (maxSteps := 2000000) only [go_sem, reduceIte, Nat.reduceEqDiff, Nat.reduceAdd, KQ, BF, AM, GH]
 refine Aj (Eo r) rfl rfl (by first | exact wk_refls _ | (repeat constructor)) ?_
 simp (maxSteps := 2000000) only [go_sem, reduceIte, Nat.reduceEqDiff, Nat.reduceAdd, KQ, hokr]
 have hn := Sa r [.gl 0 FB, .cells (AM r)]
 simp only [BF, AM, List.cons_append, List.nil_append] at hn
 refine Az (hn) rfl rfl (by first | exact wk_refls _ | (repeat constructor)) ?_
 simp (maxSteps := 2000000) only [go_sem, reduceIte, Nat.reduceEqDiff, Nat.reduceAdd, KQ]
 have hs := TV r zw m b w' far hr (fun i => by simp [zw, zf]) hw
 simp only [HS, AM, zw] at hs
 refine Az (hs) rfl rfl (by first | exact wk_refls _ | (repeat constructor)) ?_
 have hz : List.replicate 41 (C.d (D.int .i64 0)) = Ac 41 zf := by rfl
 simp (maxSteps := 2000000) only [go_sem, reduceIte, Nat.reduceEqDiff, Nat.reduceAdd, KQ, Er, hz, Ah]
 cases b with
 | false =>
  simp (maxSteps := 2000000) only [go_sem, reduceIte, Nat.reduceEqDiff, Nat.reduceAdd, KQ, ints, List.map_nil]
  try exact ⟨_, rfl⟩
 | true =>
  have gl := Ah 41 far
  have hlow : ∀ n, (HS r w' ++ [AB.cells (Ac 41 far), AB.grow n 1]).all (AB.low (HS r w' ++ [AB.cells (Ac 41 far), AB.grow n 1]).length) = true := fun n => by
   rw [List.all_append, Ez]; simp only [List.all_cons, List.all_nil, AB.low, AH, Bool.and_self]
  simp (maxSteps := 2000000) only [go_sem, reduceIte, Nat.reduceEqDiff, Nat.reduceAdd, Nat.reduceLeDiff, Nat.reduceBEq, KQ]
  refine goE_loop (bad := []) (kp := Gf) (fun k : Nat => { slots := [(5, .c (.ptr 4 0)), (7, .c (.own 5 ((EZ far k).map iD))), (23, I r.pl), (24, I k)], heap := HS r w' ++ [.cells (Ac 41 far), .grow k 1], marks := [] }) (fun k => k ≤ r.pl.toNat) (fun k => r.pl.toNat - k) 0 mo (by kernel_rfl) ?_ (Nat.zero_le _) ?_
  ·refine Ent.trans (ent_own 7 1 rfl) ?_
   refine ent_weaken [] (by simp only [HS, List.append_nil, AM]; rfl) rfl (show 1 ≤ 6 by decide) (hlow _) rfl ?_
   simp (maxSteps := 2000000) only [go_sem, reduceIte, Nat.reduceEqDiff, Nat.reduceAdd, Nat.reduceLT, KQ, HS, EZ, List.range_zero, List.map_nil]
   all_goals first | exact .refl _ | exact ⟨.refl _, .refl _⟩ | exact ⟨.refl _, .refl _, .refl _⟩ | exact ⟨.refl _, _, rfl⟩ | exact ⟨_, rfl⟩ | exact ⟨.refl _, [], by simp⟩ | exact ⟨[], by simp⟩
  rintro k hk
  simp (maxSteps := 2000000) only [go_sem, reduceIte, Nat.reduceEqDiff, Nat.reduceAdd, KQ, HS, AM]
  refine goE_if (fun h => ?_) (fun h => ?_)
  ·have hlt : k < r.pl.toNat := by simp only [decide_eq_true_eq] at h; omega
   have g1 := AY far (j := k) (n := 41) (by omega)
   have g2 := AY far (j := k + 1) (n := 41) (by omega)
   have w1 := An hlt (show r.pl.toNat ≤ 140737488355328 by omega)
   have c1 : (decide ((0 : Int) ≤ ((k + 1 : Nat) : Int)) && decide (((k + 1 : Nat) : Int) < ((41 : Nat) : Int))) = true := by rw [decide_eq_true (by omega), decide_eq_true (by omega)]; rfl
   have c2 : (decide ((0 : Int) ≤ (k : Int)) && decide ((k : Int) < ((41 : Nat) : Int))) = true := by rw [decide_eq_true (by omega), decide_eq_true (by omega)]; rfl
   have c3 : decide (k + 1 + 1 ≤ 41) = true := decide_eq_true (by omega)
   have c4 : decide (k + 1 ≤ 41) = true := decide_eq_true (by omega)
   have hpl := HA far k
   simp (maxSteps := 2000000) only [go_sem, reduceIte, Nat.reduceEqDiff, Nat.reduceAdd, Nat.reduceLT, Nat.reduceLeDiff, Nat.reduceBEq, KQ, gl, g1, g2, w1, c1, c2, c3, c4, Nat.mul_one, bound, iD, hpl, Be, zc, List.replicate_succ, List.replicate_zero, List.flatten_cons, List.flatten_nil, CR, toD, A4, CG, List.all_cons, List.all_nil, List.all_map, Function.comp_def, List.take_nil, List.drop_nil, List.drop_one, List.tail_cons, lim]
   refine ⟨decide_eq_true (by omega), decide_eq_true (by omega), by simp; omega, k + 1, by omega, by omega, ?_⟩
   refine ent_weaken [] (by simp only [HS, List.append_nil, AM, List.cons_append, List.nil_append]) rfl (show 1 ≤ 6 by decide) (hlow _) rfl ?_
   simp (maxSteps := 2000000) only [go_sem, reduceIte, Nat.reduceEqDiff, Nat.reduceAdd, Nat.reduceLT, KQ, HS, U4, List.map_append, iD]
   all_goals first | exact .refl _ | exact ⟨.refl _, .refl _⟩ | exact ⟨.refl _, .refl _, .refl _⟩ | exact ⟨.refl _, _, rfl⟩ | exact ⟨_, rfl⟩ | exact ⟨.refl _, [], by simp⟩ | exact ⟨[], by simp⟩
  ·have hk' : k = r.pl.toNat := by simp only [decide_eq_false_iff_not] at h; omega
   subst hk'
   simp (maxSteps := 2000000) only [go_sem, reduceIte, Nat.reduceEqDiff, Nat.reduceAdd, KQ, ints]
   try exact ⟨_, rfl⟩
end Go.Proofs.YtfgdbeijjbijnaaGreatDoor
