/- Signals: the sides of an area, at another heap. -/
import Derived.Test.YtfgdbeijjbijnaaGreatDoorJG23
set_option linter.unusedSimpArgs false
set_option linter.unusedVariables false
set_option linter.unusedSimpArgs false
set_option linter.unusedVariables false
set_option maxRecDepth 100000
namespace Go.Proofs.YtfgdbeijjbijnaaGreatDoor
open Go Go.Abs Go.Proofs
theorem Tz {α : Type} {H : List α} (h : H.length = 6) (x : α) : (H ++ [x])[6]? = some x := by rw [← h]; exact R4 H x
theorem P3 {α : Type} {H : List α} (h : H.length = 6) (x y : α) : (H ++ [x]).set 6 y = H ++ [y] := by rw [← h]; exact JW H x y
theorem P4 {α : Type} {H : List α} (h : H.length = 6) (x y : α) : (H ++ [x] ++ [y])[6]? = some x := by rw [← h]; exact On H x y
theorem P5 {α : Type} {H : List α} (h : H.length = 6) (x y : α) : (H ++ [x] ++ [y])[7]? = some y := by rw [show 7 = H.length + 1 by omega]; exact K9 H x y
theorem M4 {α : Type} {H : List α} (h : H.length = 6) (x y z : α) : (H ++ [x] ++ [y]).set 7 z = H ++ [x] ++ [z] := by rw [show 7 = H.length + 1 by omega]; exact IE H x y z
theorem P6 {α : Type} {H : List α} (h : H.length = 6) (x : α) : (H ++ [x]).length = 7 := by simp [h]
theorem Ad.dropT {P : Program} {f : FuncId} {args : List V} {H T0 : List AB} (h : Ad P f args H (fun _ H' => ∃ T, H' = T0 ++ T)) (hlow : T0.all (AB.low T0.length) = true) (hl : H.length ≤ T0.length) : Ad P f args H (fun _ H' => H' = T0) :=
 ⟨h.1, fun w G vs R hl' hrel => (h.2 w G vs R hl' hrel).mono fun _ w' ⟨v, x, H', G', a, ⟨T, h2⟩, c, d, e⟩ => by
  subst h2
  exact ⟨v, .c .any, T0, G', a, rfl, c.trunc hlow, .c _ _ (.any _), e.trunc hl⟩⟩
set_option maxHeartbeats 8000000 in
theorem Uz (l : List (Int × Int)) (hbd : ∀ p ∈ l, Bd 1000 p) (n2 : 2 ≤ l.length) (n4 : l.length ≤ 4) (hd : ∀ i, i < l.length → (decide ((AV l i).1 = 0) && decide ((AV l i).2 = 0)) = false) (Hs : Nat → List AB)
  (hlow : ∀ k, k ≤ l.length → (Hs k).all (AB.low 6) = true ∧ (Hs k).length = 6)
  (hb1 : ∀ k, k ≤ l.length → (Hs k)[3]? = some (.cells [.d (.sl (l.map qD))]))
  (hy : ∀ i, i < l.length → YC Tryz.prog 5 (Hs i ++ [.cells (qC (Ax l i))] ++ [.cells (qC (AV l i))]) (.agg (qC (Ax l i) ++ qC (AV l i))) (one (B true) (Hs (i + 1) ++ [.cells (qC (Ax l i))] ++ [.cells (qC (AV l i))]))) :
  Ad Tryz.prog 225 [.c (.yd 5), .c (.ptr 3 0)] (Hs 0) (fun _ H' => H' = Hs l.length) := by
 have hb10 := hb1 0 (Nat.zero_le _)
 have hl0 := (hlow 0 (Nat.zero_le _)).2
 refine acall_fitE (bad := [3]) (kp := E1) (X := tx) (nt := 33) (rs := []) Tryz.func225 rfl rfl rfl rfl mo (by kernel_rfl) (fun hf => ?_)
 simp (maxSteps := 2000000) only [go_sem, reduceIte, Nat.reduceEqDiff, Nat.reduceBEq, C2, hb10]
 refine goE_loop (bad := [3]) (kp := E1) (fun i : Nat => { slots := [(0, .c (.yd 5)), (1, .c (.ptr 3 0)), (6, qs l), (7, I l.length), (8, I i)], heap := Hs i, marks := [] }) (fun i => i ≤ l.length) (fun i => l.length - i) 0 mo (by kernel_rfl) ?_ (Nat.zero_le _) ?_
 ·obtain ⟨q1, q2⟩ := hlow 0 (by omega)
  refine ent_weaken [] (by simp) rfl (Nat.le_refl _) (by rw [q2]; exact q1) rfl ?_
  simp (maxSteps := 2000000) only [go_sem, reduceIte, Nat.reduceEqDiff, Nat.reduceLT, C2, qs, hl0]
  all_goals first | exact .refl _ | exact ⟨.refl _, .refl _⟩ | exact ⟨.refl _, .refl _, .refl _⟩ | exact ⟨.refl _, _, rfl⟩ | exact ⟨_, rfl⟩ | exact ⟨.refl _, [], by simp⟩ | exact ⟨[], by simp⟩
 rintro i hi
 simp (maxSteps := 2000000) only [go_sem, reduceIte, Nat.reduceEqDiff, Nat.reduceAdd, Nat.reduceBEq, C2, qs, hl0]
 refine goE_if (fun h => ?_) (fun h => ?_)
 ·have hlt : i < l.length := by simpa using h
  obtain ⟨q1, q2⟩ := hlow i hi
  obtain ⟨r1, r2⟩ := hlow (i + 1) hlt
  have hb1i := hb1 i hi
  have hyi := hy i hlt
  have hdi := hd i hlt
  have hmu : l.length - (i + 1) < l.length - i := by omega
  have hn : (i + 1) % l.length < l.length := Nat.mod_lt _ (by omega)
  have g1 := Bi hlt
  have g2 := Bi hn
  have b1' := hbd _ (List.mem_of_getElem? g1)
  have b2' := hbd _ (List.mem_of_getElem? g2)
  have hls := Ez (AR b2') (AR b1')
  have hap1 : ∀ x : AB, (Hs i ++ [x])[3]? = some (.cells [.d (.sl (l.map qD))]) := fun x => by rw [List.getElem?_append_left (by omega)]; exact hb1i
  have hap2 : ∀ x y : AB, (Hs i ++ [x] ++ [y])[3]? = some (.cells [.d (.sl (l.map qD))]) := fun x y => by rw [List.append_assoc, List.getElem?_append_left (by omega)]; exact hb1i
  have cx : (decide ((0 : Int) ≤ (i : Int)) && decide ((i : Int) < (l.length : Int))) = true := by simp; omega
  have cx2 : (decide ((0 : Int) ≤ (((i + 1) % l.length : Nat) : Int)) && decide ((((i + 1) % l.length : Nat) : Int) < (l.length : Int))) = true := by
   rw [decide_eq_true (Int.natCast_nonneg _), decide_eq_true (Int.ofNat_lt.2 hn)]; rfl
  have nz : ¬ (l.length : Int) = 0 := by omega
  have hl2 : l.length ≤ 140737488355328 := by omega
  have tm := MY (i := i) (n := l.length) (by omega) (by omega)
  have ew : AV l i = Be (Ax l ((i + 1) % l.length)) (Ax l i) := rfl
  have k1 := fun x => Tz (H := Hs i) q2 x
  have k2 := fun x y => P3 (H := Hs i) q2 x y
  have k3 := fun x y => P4 (H := Hs i) q2 x y
  have k4 := fun x y => P5 (H := Hs i) q2 x y
  have k5 := fun x y z => M4 (H := Hs i) q2 x y z
  have k6 := fun x => P6 (H := Hs i) q2 x
  rw [← ew] at hls
  simp only [qV, qC, List.cons_append, List.nil_append] at hls hyi
  simp (maxSteps := 2000000) only [go_sem, reduceIte, Nat.reduceEqDiff, Nat.reduceAdd, Nat.reduceBEq, C2, g1, qD, cx, q2, k1, k2, k3, k4, k5, k6, hap1, hap2, Az hlt hl2, tm, nz, cx2, g2]
  refine de_pure (hls) rfl rfl (by first | exact wk_refls _ | (repeat constructor)) ?_
  simp (maxSteps := 2000000) only [go_sem, reduceIte, Nat.reduceEqDiff, Nat.reduceAdd, Nat.reduceLeDiff, Nat.reduceBEq, C2, q2, k1, k2, k3, k4, k5, k6, hap1, hap2, hdi]
  refine ⟨AE (by kernel_rfl), ?_⟩
  refine S8 hyi rfl rfl (fun y H' hh => ?_)
  obtain ⟨rfl, rfl⟩ := hh
  simp (maxSteps := 2000000) only [go_sem, reduceIte, Nat.reduceEqDiff, Nat.reduceAdd, Nat.reduceBEq, C2]
  refine ⟨i + 1, hlt, hmu, ?_⟩
  refine ent_weaken [.cells (qC (Ax l i)), .cells (qC (AV l i))] (by simp only [List.append_assoc, List.cons_append, List.nil_append, qC]) rfl (by rw [r2]; exact Nat.le_refl _) (by rw [r2]; exact r1) rfl ?_
  simp (maxSteps := 2000000) only [go_sem, reduceIte, Nat.reduceEqDiff, Nat.reduceLT, C2, qs, r2, Az hlt hl2]
  all_goals first | exact .refl _ | exact ⟨.refl _, .refl _⟩ | exact ⟨.refl _, .refl _, .refl _⟩ | exact ⟨.refl _, _, rfl⟩ | exact ⟨_, rfl⟩ | exact ⟨.refl _, [], by simp⟩ | exact ⟨[], by simp⟩
 ·have hi' : i = l.length := by simp at h; omega
  subst hi'
  simp (maxSteps := 2000000) only [go_sem, reduceIte, C2]
set_option maxHeartbeats 8000000 in
theorem Ou (p : Int × Int) (hp : Bd 1000 p) (H : List AB) (hlow : H.all (AB.low 6) = true) (hlen : H.length = 6) (hb1 : H[3]? = some (.cells [.d (.sl [qD p])])) :
  Ad Tryz.prog 225 [.c (.yd 5), .c (.ptr 3 0)] H (fun _ H' => H' = H) := by
 have q2 := hlen
 have hap1 : ∀ x : AB, (H ++ [x])[3]? = some (.cells [.d (.sl [qD p])]) := fun x => by rw [List.getElem?_append_left (by omega)]; exact hb1
 have hap2 : ∀ x y : AB, (H ++ [x] ++ [y])[3]? = some (.cells [.d (.sl [qD p])]) := fun x y => by rw [List.append_assoc, List.getElem?_append_left (by omega)]; exact hb1
 have k1 := fun x => Tz (H := H) q2 x
 have k2 := fun x y => P3 (H := H) q2 x y
 have k3 := fun x y => P4 (H := H) q2 x y
 have k4 := fun x y => P5 (H := H) q2 x y
 have k5 := fun x y z => M4 (H := H) q2 x y z
 have k6 := fun x => P6 (H := H) q2 x
 have hls := Ez (AR hp) (AR hp)
 have e1 : p.1 - p.1 = 0 := Int.sub_self _
 have e2 : p.2 - p.2 = 0 := Int.sub_self _
 have tm : Int.tmod 1 1 = 0 := by decide
 simp only [qV, qC, qD, Be, e1, e2] at hls hb1 hap1 hap2
 refine Ad.dropT (T0 := H) ?_ (by rw [hlen]; exact hlow) (Nat.le_refl _)
 refine acall_fitE (bad := [3]) (kp := E1) (X := tx) (nt := 33) (rs := []) Tryz.func225 rfl rfl rfl rfl mo (by kernel_rfl) (fun hf => ?_)
 simp (maxSteps := 2000000) only [go_sem, reduceIte, Nat.reduceEqDiff, Nat.reduceBEq, C2, hb1]
 refine Ah 1 ?_
 refine Aa (bad := [3]) (kp := E1) mo (by kernel_rfl) ?_
 simp (maxSteps := 2000000) only [go_sem, reduceIte, Nat.reduceEqDiff, Nat.reduceAdd, Nat.reduceBEq, Int.reduceLT, Int.reduceLE, Int.reduceEq, Int.reduceToNat, C2, qD, q2, k1, k2, k3, k4, k5, k6, hap1, hap2, tm]
 refine de_pure (hls) rfl rfl (by first | exact wk_refls _ | (repeat constructor)) ?_
 simp (maxSteps := 2000000) only [go_sem, reduceIte, Nat.reduceEqDiff, Nat.reduceAdd, C2, q2, k1, k2, k3, k4, k5, k6, hap1, hap2]
 refine ⟨AE (by kernel_rfl), ?_⟩
 exact ⟨_, List.append_assoc _ _ _⟩
end Go.Proofs.YtfgdbeijjbijnaaGreatDoor
set_option linter.unusedSimpArgs false
set_option linter.unusedVariables false
set_option maxRecDepth 100000
namespace Go.Proofs.YtfgdbeijjbijnaaGreatDoor
open Go Go.Abs Go.Proofs
def CO : List (Nat × List Nat) := [(0, [0, 1, 4]), (1, [0, 1, 4, 6]), (2, [0, 1, 4, 6, 20, 21, 22]), (3, [0, 1, 4, 6, 20, 21, 22, 23]), (4, [0, 1, 4, 6, 8, 20, 21, 22]), (5, [0, 1, 4, 6, 8, 20, 21, 22, 26, 27, 28]), (6, [0, 1, 4, 6, 8, 20, 21, 22, 26, 27, 28, 29]), (7, [0, 1, 4, 6, 8, 10, 20, 21, 22, 26, 27, 28]), (8, [0, 1, 4, 6, 8, 20, 21, 22, 26, 27, 28]), (9, [0, 1, 4, 6, 8, 20, 21, 22, 26, 27, 28]), (10, [0, 1, 4, 6, 20, 21, 22]), (11, [0, 1, 4, 6, 42, 43, 44]), (12, [0, 1, 4, 6, 42, 43, 44, 45]), (13, [0, 1, 4, 6, 12, 42, 43, 44]), (14, [0, 1, 4, 6, 42, 43, 44, 49]), (15, [6, 13]), (16, [6]), (17, [0, 1, 4, 6, 42, 43, 44]), (18, [0, 1, 4, 6, 14]), (19, [0, 1, 4, 6, 14, 15]), (20, [0, 1, 4, 14, 15, 71, 72, 73]), (21, [0, 1, 4, 14, 15, 71, 72, 73, 74]), (22, [0, 1, 4, 14, 15, 17, 71, 72, 73]), (23, [0, 1, 4, 14, 15, 17, 18, 19, 71, 72, 73]), (24, [0, 1, 4, 14, 15, 17, 18, 71, 72, 73, 84]), (25, [4, 14, 15]), (26, [0, 1, 4, 14, 15, 71, 72, 73]), (27, [4, 5])]
theorem Dh : lookK CO 0 = some [0, 1, 4] ∧ lookK CO 1 = some [0, 1, 4, 6] ∧ lookK CO 2 = some [0, 1, 4, 6, 20, 21, 22] ∧ lookK CO 3 = some [0, 1, 4, 6, 20, 21, 22, 23] ∧ lookK CO 4 = some [0, 1, 4, 6, 8, 20, 21, 22] ∧ lookK CO 5 = some [0, 1, 4, 6, 8, 20, 21, 22, 26, 27, 28] ∧ lookK CO 6 = some [0, 1, 4, 6, 8, 20, 21, 22, 26, 27, 28, 29] ∧ lookK CO 7 = some [0, 1, 4, 6, 8, 10, 20, 21, 22, 26, 27, 28] ∧ lookK CO 8 = some [0, 1, 4, 6, 8, 20, 21, 22, 26, 27, 28] ∧ lookK CO 9 = some [0, 1, 4, 6, 8, 20, 21, 22, 26, 27, 28] ∧ lookK CO 10 = some [0, 1, 4, 6, 20, 21, 22] ∧ lookK CO 11 = some [0, 1, 4, 6, 42, 43, 44] ∧ lookK CO 12 = some [0, 1, 4, 6, 42, 43, 44, 45] ∧ lookK CO 13 = some [0, 1, 4, 6, 12, 42, 43, 44] ∧ lookK CO 14 = some [0, 1, 4, 6, 42, 43, 44, 49] ∧ lookK CO 15 = some [6, 13] ∧ lookK CO 16 = some [6] ∧ lookK CO 17 = some [0, 1, 4, 6, 42, 43, 44] ∧ lookK CO 18 = some [0, 1, 4, 6, 14] ∧ lookK CO 19 = some [0, 1, 4, 6, 14, 15] ∧ lookK CO 20 = some [0, 1, 4, 14, 15, 71, 72, 73] ∧ lookK CO 21 = some [0, 1, 4, 14, 15, 71, 72, 73, 74] ∧ lookK CO 22 = some [0, 1, 4, 14, 15, 17, 71, 72, 73] ∧ lookK CO 23 = some [0, 1, 4, 14, 15, 17, 18, 19, 71, 72, 73] ∧ lookK CO 24 = some [0, 1, 4, 14, 15, 17, 18, 71, 72, 73, 84] ∧ lookK CO 25 = some [4, 14, 15] ∧ lookK CO 26 = some [0, 1, 4, 14, 15, 71, 72, 73] ∧ lookK CO 27 = some [4, 5] := ⟨rfl, rfl, rfl, rfl, rfl, rfl, rfl, rfl, rfl, rfl, rfl, rfl, rfl, rfl, rfl, rfl, rfl, rfl, rfl, rfl, rfl, rfl, rfl, rfl, rfl, rfl, rfl, rfl⟩
def lnH (R : List (Int × Int)) : List AB := [.cells [.d (.int .i64 0), .d (.int .i64 0), .d (.int .i64 0)], .cells [.own 2 (R.map qD)], .grow R.length 2]
theorem JX (n : Nat) (R : List (Int × Int)) : (lnH R).all (AB.low (n + 3)) = true := by
 simp [lnH, AB.low, C.lowL, C.low]
theorem aCX (R : List (Int × Int)) (p : Int × Int) : (lnH R ++ [AB.cells (qC p)]).all (AB.low 4) = true := by
 simp [lnH, AB.low, C.lowL, C.low, qC]
theorem aEN (R : List (Int × Int)) (h : R.length ≤ 100) : ((R.all fun x => (qD x).length == 2) && decide ((R.length + 1 + (R.length + 1) / 4 + 256) * 16 ≤ 281474976710656) && decide (R.length ≤ 140737488355327)) = true := by
 have e : (R.all fun x => (qD x).length == 2) = true := by simp [qD]
 rw [e]
 simp
 omega
theorem own_ok2 (R : List (Int × Int)) (h : R.length ≤ 100) : ((R.all fun x => (qD x).length == 2) && decide ((R.length + 2 + (R.length + 2) / 4 + 256) * 16 ≤ 281474976710656) && decide (R.length ≤ 140737488355326)) = true := by
 have e : (R.all fun x => (qD x).length == 2) = true := by simp [qD]
 rw [e]
 simp
 omega
def abL (a b : List (Int × Int)) (k : Nat) : List (Int × Int) := if k = 0 then a else b
def sdR (a b : List (Int × Int)) : Nat → List (Int × Int)
 | 0 => Cp a b a.length
 | k + 1 => sdR a b k ++ En (abL a b k)
theorem aEO (a b : List (Int × Int)) : sdR a b 2 = I3 a b := rfl
theorem aEP {a b : List (Int × Int)} (ha : a.length ≤ 4) (hb : b.length ≤ 4) : (sdR a b 0).length ≤ 32 ∧ (sdR a b 1).length ≤ 32 := by
 have h1 := M2 ha hb
 rw [I3, List.length_append, List.length_append] at h1
 refine ⟨by show (Cp a b a.length).length ≤ 32; omega, ?_⟩
 show (Cp a b a.length ++ En a).length ≤ 32
 rw [List.length_append]; omega
def JI (l R : List (Int × Int)) : Nat → List (Int × Int)
 | 0 => R
 | i + 1 => JI l R i ++ Ux (AV l i)
theorem Ov (l R : List (Int × Int)) : ∀ i, JI l R i = R ++ GC l i
 | 0 => (List.append_nil _).symm
 | i + 1 => by rw [JI, Ov l R i, GC, List.append_assoc]
theorem Ld (l R : List (Int × Int)) (i : Nat) : (JI l R i).length = R.length + 2 * i := by rw [Ov, List.length_append, IH]
def slL (a b : List (Int × Int)) (k : Nat) : List (Nat × V) := [(0, qs a), (1, qs b), (4, .c (.ptr 0 0)), (6, .c (.ptr 1 0)), (42, .c (.full [[.sl (a.map qD)], [.sl (b.map qD)]])), (43, I 2), (44, I k), (49, .c (.fn (.func 225) [.ptr 3 0]))]
def HL (a b : List (Int × Int)) (k : Nat) (l R : List (Int × Int)) (A Bd : Code) (st : LoopState) : List AB := lnH R ++ [.cells [.d (.sl (l.map qD))], .df, .lp { state := st, pend := none, slots := slL a b k, nt := 94, ps := #[50], assign := A, body := Bd, D := 4 }]
theorem R6 (a b : List (Int × Int)) (k : Nat) (l R : List (Int × Int)) (A Bd : Code) (st : LoopState) (n : Nat) : (HL a b k l R A Bd st).all (AB.low (n + 6)) = true := by
 simp [HL, lnH, slL, qs, AB.low, C.lowL, C.low, V.low, Aw]
theorem aCY (R : List (Int × Int)) (w : Int × Int) : (R ++ Ux w).map qD = R.map qD ++ [[.int .i64 w.2, .int .i64 (-w.1)], [.int .i64 (-w.2), .int .i64 w.1]] := by simp [Ux, aG4, aG5, qD]
theorem TA {α : Type} {p : α → Bool} : ∀ {l : List α} {i : Nat} {x : α}, (∀ j y, j < i → l[j]? = some y → p y = false) → l[i]? = some x → p x = true → l.find? p = some x
 | [], i, x, _, h, _ => by simp at h
 | a :: l, 0, x, _, h, hp => by
  simp at h
  subst h
  simp [List.find?, hp]
 | a :: l, i + 1, x, hall, h, hp => by
  have h0 := hall 0 a (by omega) rfl
  rw [List.find?_cons, h0]
  exact TA (i := i) (fun j y hj hy => hall (j + 1) y (by omega) (by simpa using hy)) (by simpa using h) hp
theorem aEQ {α : Type} {p : α → Bool} {l : List α} (h : ∀ (j : Nat) y, j < l.length → l[j]? = some y → p y = false) : l.find? p = none := by
 rw [List.find?_eq_none]
 intro x hx
 obtain ⟨j, hj⟩ := List.getElem?_of_mem hx
 rw [h j x (List.getElem?_eq_some_iff.1 hj).1 hj]
 simp
set_option maxHeartbeats 8000000 in
theorem aG6 {a b : List (Int × Int)} (ha : ∀ q ∈ a, Bd 1000 q) (hb : ∀ q ∈ b, Bd 1000 q) (a1 : 1 ≤ a.length) (a4 : a.length ≤ 4) (b1 : 1 ≤ b.length) (b4 : b.length ≤ 4)
  (hda : 2 ≤ a.length → ∀ i, i < a.length → (decide ((AV a i).1 = 0) && decide ((AV a i).2 = 0)) = false) (hdb : 2 ≤ b.length → ∀ i, i < b.length → (decide ((AV b i).1 = 0) && decide ((AV b i).2 = 0)) = false) :
  AF Tryz.prog 56 [qs a, qs b] (.tup [.agg (lnC a b (Fy a b)), B (Fy a b).isSome]) := by
 refine pure_wkE (bad := []) (kp := CO) (X := tx) (nt := 94) (rs := [.cell 4 53, .tmp 5]) Tryz.func56 rfl rfl rfl rfl mo (by kernel_rfl) rfl (by cases Fy a b <;> rfl) (fun hf => ?_)
 simp (maxSteps := 2000000) only [go_sem, reduceIte, Nat.reduceEqDiff, Nat.reduceAdd, Dh, qs]
 refine AWP.ent (s' := { slots := [(0, qs a), (1, qs b), (4, .c (.ptr 0 0)), (6, .c (.ptr 1 0)), (20, qs a), (21, I a.length), (22, I 0)], heap := lnH (Cp a b 0), marks := [] }) (Ent.trans (Go.Abs.Fd 1 0 2 rfl rfl) ?_) ?_
 ·refine ent_weaken [] rfl rfl (Nat.zero_le _) (JX 0 _) rfl ?_
  simp (maxSteps := 2000000) only [go_sem, reduceIte, Nat.reduceEqDiff, Dh, qs]
  all_goals first | exact .refl _ | exact ⟨.refl _, .refl _⟩ | exact ⟨.refl _, .refl _, .refl _⟩ | exact ⟨.refl _, _, rfl⟩ | exact ⟨_, rfl⟩ | exact ⟨.refl _, [], by simp⟩ | exact ⟨[], by simp⟩
 refine goE_loop (bad := []) (kp := CO) (fun i : Nat => { slots := [(0, qs a), (1, qs b), (4, .c (.ptr 0 0)), (6, .c (.ptr 1 0)), (20, qs a), (21, I a.length), (22, I i)], heap := lnH (Cp a b i), marks := [] }) (fun i => i ≤ a.length) (fun i => a.length - i) 0 mo (by kernel_rfl) ?_ (Nat.zero_le _) ?_
 ·exact Ent.refl
 rintro i hi
 simp (maxSteps := 2000000) only [go_sem, reduceIte, Nat.reduceEqDiff, Nat.reduceAdd, Dh, qs, lnH]
 refine goE_if (fun h => ?_) (fun h => ?_)
 ·have hlt : i < a.length := by simpa using h
  have hmu : a.length - (i + 1) < a.length - i := by omega
  have g1 := Bi hlt
  have cx : (decide ((0 : Int) ≤ (i : Int)) && decide ((i : Int) < (a.length : Int))) = true := by simp; omega
  simp (maxSteps := 2000000) only [go_sem, reduceIte, Nat.reduceEqDiff, Nat.reduceAdd, Dh, g1, qD, cx]
  refine goE_loop (bad := []) (kp := CO) (fun j : Nat => { slots := [(0, qs a), (1, qs b), (4, .c (.ptr 0 0)), (6, .c (.ptr 1 0)), (8, .c (.ptr 3 0)), (20, qs a), (21, I a.length), (22, I i), (26, qs b), (27, I b.length), (28, I j)], heap := lnH (Cp a b i ++ IG (Ax a i) b j) ++ [.cells (qC (Ax a i))], marks := [] }) (fun j => j ≤ b.length) (fun j => b.length - j) 0 mo (by kernel_rfl) ?_ (Nat.zero_le _) ?_
  ·have e0 : Cp a b i ++ IG (Ax a i) b 0 = Cp a b i := List.append_nil _
   rw [e0]
   exact Ent.refl
  rintro j hj
  simp (maxSteps := 2000000) only [go_sem, reduceIte, Nat.reduceEqDiff, Nat.reduceAdd, Dh, qs, lnH, List.cons_append, List.nil_append]
  refine goE_if (fun h => ?_) (fun h => ?_)
  ·have hltj : j < b.length := by simpa using h
   have hmuj : b.length - (j + 1) < b.length - j := by omega
   have g2 := Bi hltj
   have cy : (decide ((0 : Int) ≤ (j : Int)) && decide ((j : Int) < (b.length : Int))) = true := by simp; omega
   have hls := Ez (AR (hb _ (List.mem_of_getElem? g2))) (AR (ha _ (List.mem_of_getElem? g1)))
   simp only [qV, qC] at hls
   simp (maxSteps := 2000000) only [go_sem, reduceIte, Nat.reduceEqDiff, Nat.reduceAdd, Dh, g2, qD, cy, qC]
   refine Af (hls) rfl rfl (by first | exact wk_refls _ | (repeat constructor)) (by kernel_rfl) ?_
   simp (maxSteps := 2000000) only [go_sem, reduceIte, Nat.reduceEqDiff, Nat.reduceAdd, Nat.reduceLT, Nat.reduceLeDiff, Nat.reduceBEq, Nat.reduceMul, Dh]
   have hrl : (Cp a b i ++ IG (Ax a i) b j).length ≤ 100 := by
    have h3 := Nat.mul_le_mul (show i ≤ 4 by omega) b4
    rw [List.length_append, G9, La]
    omega
   refine ⟨aEN _ hrl, j + 1, hltj, hmuj, ?_⟩
   have e1 : Cp a b i ++ IG (Ax a i) b (j + 1) = (Cp a b i ++ IG (Ax a i) b j) ++ [Be (Ax b j) (Ax a i)] := by rw [IG, List.append_assoc]
   rw [e1]
   refine ent_weaken [.cells (qC (Ax b j))] (by simp [lnH, qC, qD, Nat.add_assoc]) rfl (Nat.zero_le _) (aCX _ _) rfl ?_
   simp (maxSteps := 2000000) only [go_sem, reduceIte, Nat.reduceEqDiff, Nat.reduceAdd, Nat.reduceLT, Dh, qs, Az hltj (show b.length ≤ 140737488355328 by omega)]
   all_goals first | exact .refl _ | exact ⟨.refl _, .refl _⟩ | exact ⟨.refl _, .refl _, .refl _⟩ | exact ⟨.refl _, _, rfl⟩ | exact ⟨_, rfl⟩ | exact ⟨.refl _, [], by simp⟩ | exact ⟨[], by simp⟩
  ·have hj' : j = b.length := by simp at h; omega
   subst hj'
   simp (maxSteps := 2000000) only [go_sem, reduceIte, Nat.reduceEqDiff, Nat.reduceAdd, Nat.reduceLeDiff, Nat.reduceBEq, Nat.reduceMul, Dh, Az hlt (show a.length ≤ 140737488355328 by omega)]
   refine ⟨i + 1, hlt, hmu, ?_⟩
   refine ent_weaken [.cells (qC (Ax a i))] rfl rfl (Nat.zero_le _) (JX 0 _) rfl ?_
   simp (maxSteps := 2000000) only [go_sem, reduceIte, Nat.reduceEqDiff, Nat.reduceAdd, Nat.reduceLT, Dh, qs]
   all_goals first | exact .refl _ | exact ⟨.refl _, .refl _⟩ | exact ⟨.refl _, .refl _, .refl _⟩ | exact ⟨.refl _, _, rfl⟩ | exact ⟨_, rfl⟩ | exact ⟨.refl _, [], by simp⟩ | exact ⟨[], by simp⟩
 ·have hi' : i = a.length := by simp at h; omega
  subst hi'
  simp (maxSteps := 2000000) only [go_sem, reduceIte, Nat.reduceEqDiff, Nat.reduceAdd, Nat.reduceLeDiff, Nat.reduceBEq, Nat.reduceMul, Dh]
  refine goE_loop (bad := []) (kp := CO) (fun k : Nat => { slots := [(0, qs a), (1, qs b), (4, .c (.ptr 0 0)), (6, .c (.ptr 1 0)), (42, .c (.full [[.sl (a.map qD)], [.sl (b.map qD)]])), (43, I 2), (44, I k)], heap := lnH (sdR a b k), marks := [] }) (fun k => k ≤ 2) (fun k => 2 - k) 0 mo (by kernel_rfl) ?_ (Nat.zero_le _) ?_
  ·exact Ent.refl
  clear hi h
  rintro k hk
  simp (maxSteps := 2000000) only [go_sem, reduceIte, Nat.reduceEqDiff, Nat.reduceAdd, Dh, qs, lnH]
  refine goE_if (fun h => ?_) (fun h => ?_)
  ·have hlt : k < 2 := by simp at h; omega
   have hmu : 2 - (k + 1) < 2 - k := by omega
   obtain ⟨l, hl, hrow, hlb, l1, l4, hdl⟩ : ∃ l, abL a b k = l ∧ [[D.sl (a.map qD)], [D.sl (b.map qD)]][k]? = some [D.sl (l.map qD)] ∧ (∀ q ∈ l, Bd 1000 q) ∧ 1 ≤ l.length ∧ l.length ≤ 4 ∧ (2 ≤ l.length → ∀ i, i < l.length → (decide ((AV l i).1 = 0) && decide ((AV l i).2 = 0)) = false) := by
    rcases lt2 hlt with rfl | rfl
    ·exact ⟨a, rfl, rfl, ha, a1, a4, hda⟩
    ·exact ⟨b, rfl, rfl, hb, b1, b4, hdb⟩
   obtain ⟨R, hR, hnx, hRl⟩ : ∃ R, sdR a b k = R ∧ sdR a b (k + 1) = R ++ En l ∧ R.length ≤ 32 := by
    refine ⟨_, rfl, by rw [sdR, hl], ?_⟩
    obtain ⟨q1, q2⟩ := aEP (a := a) (b := b) a4 b4
    rcases lt2 hlt with rfl | rfl
    ·exact q1
    ·exact q2
   rw [hR]
   have cx : (decide ((0 : Int) ≤ (k : Int)) && decide ((k : Int) < 2)) = true := by simp; omega
   have hsd := PV l (lnH R)
   simp only [qs, lnH] at hsd
   simp (maxSteps := 2000000) only [go_sem, reduceIte, Nat.reduceEqDiff, Nat.reduceAdd, Dh, hrow, cx]
   refine Ar (hsd) rfl rfl (by first | exact wk_refls _ | (repeat constructor)) ?_
   simp (maxSteps := 2000000) only [go_sem, reduceIte, Nat.reduceEqDiff, Nat.reduceAdd, Dh]
   refine KI (fun A Cd hA hB => ?_)
   refine FS (gf := 225) (caps := [.ptr 3 0]) rfl rfl (Nat.zero_le _) rfl ?_
   by_cases h2 : 2 ≤ l.length
   ·have hsw : En l = GC l l.length := if_neg (by omega)
    rw [hsw, ← Ov] at hnx
    refine Ad.mono (Uz l hlb h2 l4 (hdl h2) (fun i => HL a b k l (JI l R i) A Cd .ready) (fun i hi => ⟨R6 a b k l _ A Cd .ready 0, rfl⟩) (fun _ _ => rfl) (fun i hi => ?_)) ?_
    ·refine VC (bad := []) (kp := CO) (X := tx) mo rfl hA hB rfl rfl (by kernel_rfl) (by kernel_rfl) (fun lp => ?_)
     have hrl : (JI l R i).length ≤ 100 := by rw [Ld]; omega
     have bw := aCV hlb hi
     obtain ⟨w1, w2⟩ := aCL bw
     simp (maxSteps := 2000000) only [go_sem, reduceIte, Nat.reduceEqDiff, Nat.reduceAdd, Nat.reduceLT, Nat.reduceLeDiff, Nat.reduceMul, Int.reduceLT, Int.reduceLE, Int.reduceToNat, Dh, DW, HL, lnH, slL, qC, List.cons_append, List.nil_append]
     refine ⟨_, rfl, ?_⟩
     simp (maxSteps := 2000000) only [go_sem, reduceIte, Nat.reduceEqDiff, Nat.reduceAdd, Nat.reduceLT, Nat.reduceLeDiff, Nat.reduceBEq, Nat.reduceMul, Dh, DW, HL, lnH, slL, qC, List.cons_append, List.nil_append, w1, w2]
     have hx1 : (JI l R (i + 1)).map qD = (JI l R i).map qD ++ [[.int .i64 (AV l i).2, .int .i64 (-(AV l i).1)], [.int .i64 (-(AV l i).2), .int .i64 (AV l i).1]] := aCY _ _
     have hx2 : (JI l R (i + 1)).length = (JI l R i).length + 2 := by rw [Ld, Ld]; omega
     refine ⟨own_ok2 _ hrl, { slots := [], heap := HL a b k l (JI l R (i + 1)) A Cd .busy ++ [.cells (qC (Ax l i))] ++ [.cells (qC (AV l i))], marks := [] }, ent_weaken [.cells (qC (Ax l i) ++ qC (AV l i))] ?_ rfl (show 8 ≤ 8 by decide) ?_ rfl trivial, _, rfl, rfl, ?_⟩
     ·simp only [HL, lnH, hx1, hx2, List.cons_append, List.nil_append]; rfl
     ·show (HL a b k l (JI l R (i + 1)) A Cd .busy ++ [AB.cells (qC (Ax l i))] ++ [AB.cells (qC (AV l i))]).all (AB.low 8) = true
      rw [List.all_append, List.all_append, R6 a b k l _ A Cd .busy 2]; rfl
     ·simp only [HL, lnH, hx1, hx2, List.cons_append, List.nil_append]; rfl
    ·rintro _ H2 rfl
     refine ⟨fun h => (by cases h), rfl, rfl, ?_⟩
     simp (maxSteps := 2000000) only [go_sem, reduceIte, Nat.reduceEqDiff, Nat.reduceAdd, Dh, HL, lnH, slL, Az hlt (show 2 ≤ 140737488355328 by omega)]
     refine ⟨k + 1, hlt, hmu, ?_⟩
     rw [hnx]
     refine ent_weaken [.cells [.d (.sl (l.map qD))], .gone, .lp { state := .exhausted, pend := none, slots := slL a b k, nt := 94, ps := #[50], assign := A, body := Cd, D := 4 }] rfl rfl (Nat.zero_le _) (JX 0 _) rfl ?_
     simp (maxSteps := 2000000) only [go_sem, reduceIte, Nat.reduceEqDiff, Nat.reduceAdd, Nat.reduceLT, Dh, qs]
     all_goals first | exact .refl _ | exact ⟨.refl _, .refl _⟩ | exact ⟨.refl _, .refl _, .refl _⟩ | exact ⟨.refl _, _, rfl⟩ | exact ⟨_, rfl⟩ | exact ⟨.refl _, [], by simp⟩ | exact ⟨[], by simp⟩
   ·have hsw : En l = [] := if_pos (by omega)
    rw [hsw, List.append_nil] at hnx
    obtain ⟨p, hp⟩ : ∃ p, l = [p] := List.length_eq_one_iff.1 (by omega)
    subst hp
    refine Ad.mono (Ou p (hlb p (by simp)) (HL a b k [p] R A Cd .ready) (R6 a b k [p] R A Cd .ready 0) rfl rfl) ?_
    rintro _ H2 rfl
    refine ⟨fun h => (by cases h), rfl, rfl, ?_⟩
    simp (maxSteps := 2000000) only [go_sem, reduceIte, Nat.reduceEqDiff, Nat.reduceAdd, Dh, HL, lnH, slL, Az hlt (show 2 ≤ 140737488355328 by omega)]
    refine ⟨k + 1, hlt, hmu, ?_⟩
    rw [hnx]
    refine ent_weaken [.cells [.d (.sl ([p].map qD))], .gone, .lp { state := .exhausted, pend := none, slots := slL a b k, nt := 94, ps := #[50], assign := A, body := Cd, D := 4 }] rfl rfl (Nat.zero_le _) (JX 0 _) rfl ?_
    simp (maxSteps := 2000000) only [go_sem, reduceIte, Nat.reduceEqDiff, Nat.reduceAdd, Nat.reduceLT, Dh, qs]
    all_goals first | exact .refl _ | exact ⟨.refl _, .refl _⟩ | exact ⟨.refl _, .refl _, .refl _⟩ | exact ⟨.refl _, _, rfl⟩ | exact ⟨_, rfl⟩ | exact ⟨.refl _, [], by simp⟩ | exact ⟨[], by simp⟩
  ·have hk' : k = 2 := by simp at h; omega
   subst hk'
   rw [aEO]
   obtain ⟨W, hW⟩ : ∃ W, W = I3 a b := ⟨_, rfl⟩
   have hF : Fy a b = W.find? (HV a b) := by rw [hW]; rfl
   have hWl := M2 a4 b4
   have hWb := P0 ha hb
   rw [← hW] at hWl hWb ⊢
   simp (maxSteps := 2000000) only [go_sem, reduceIte, Nat.reduceEqDiff, Nat.reduceAdd, Nat.reduceSub, Int.reduceLT, Dh]
   refine goE_loop (bad := []) (kp := CO) (fun j : Nat => { slots := [(0, qs a), (1, qs b), (4, .c (.ptr 0 0)), (14, B false), (15, .c (.ptr 3 0)), (71, .c (.d (.sl (W.map qD)))), (72, I W.length), (73, I j)], heap := lnH W ++ [.cells [.d (.int .i64 0), .d (.int .i64 0), .d (.int .i64 0)]], marks := [] }) (fun j => j ≤ W.length ∧ ∀ m y, m < j → W[m]? = some y → HV a b y = false) (fun j => W.length - j) 0 mo (by kernel_rfl) ?_ ⟨Nat.zero_le _, by intro m y hm; omega⟩ ?_
   ·refine ent_weaken [] rfl rfl (Nat.zero_le _) (by simp [lnH, AB.low, C.lowL, C.low]) rfl ?_
    simp (maxSteps := 2000000) only [go_sem, reduceIte, Nat.reduceEqDiff, Dh, qs]
    all_goals first | exact .refl _ | exact ⟨.refl _, .refl _⟩ | exact ⟨.refl _, .refl _, .refl _⟩ | exact ⟨.refl _, _, rfl⟩ | exact ⟨_, rfl⟩ | exact ⟨.refl _, [], by simp⟩ | exact ⟨[], by simp⟩
   clear h hk
   rintro j ⟨hj, hall⟩
   simp (maxSteps := 2000000) only [go_sem, reduceIte, Nat.reduceEqDiff, Nat.reduceAdd, Dh, qs, lnH, List.cons_append, List.nil_append]
   refine goE_if (fun h => ?_) (fun h => ?_)
   ·have hlt : j < W.length := by simpa using h
    have hmu : W.length - (j + 1) < W.length - j := by omega
    have g3 := Bi hlt
    have cz : (decide ((0 : Int) ≤ (j : Int)) && decide ((j : Int) < (W.length : Int))) = true := by simp; omega
    have hpr := aCM (a := a) (b := b) (w := Ax W j) a1 (by omega) b1 (by omega) (fun p hp => AR (ha p hp)) (fun p hp => AR (hb p hp)) (hWb _ (List.mem_of_getElem? g3))
    simp only [qs, qV, qC] at hpr
    simp (maxSteps := 2000000) only [go_sem, reduceIte, Nat.reduceEqDiff, Nat.reduceAdd, Dh, g3, qD, cz]
    refine Ac (hpr) rfl rfl (by first | exact wk_refls _ | (repeat constructor)) ?_
    cases hv : HV a b (Ax W j) with
    | true =>
     have hf2 : Fy a b = some (Ax W j) := by rw [hF]; exact TA hall g3 hv
     rw [hf2]
     simp (maxSteps := 2000000) only [go_sem, reduceIte, Nat.reduceEqDiff, Nat.reduceAdd, Nat.reduceLeDiff, Nat.reduceBEq, Nat.reduceMul, Int.reduceLT, Int.reduceLE, Int.reduceToNat, Dh, lnC, Option.isSome_some]
     all_goals first | exact .refl _ | exact ⟨.refl _, .refl _⟩ | exact ⟨.refl _, .refl _, .refl _⟩ | exact ⟨.refl _, _, rfl⟩ | exact ⟨_, rfl⟩ | exact ⟨.refl _, [], by simp⟩ | exact ⟨[], by simp⟩
    | false =>
     simp (maxSteps := 2000000) only [go_sem, reduceIte, Nat.reduceEqDiff, Nat.reduceAdd, Dh, Az hlt (show W.length ≤ 140737488355328 by omega)]
     refine ⟨j + 1, ⟨hlt, Bw hall g3 hv⟩, hmu, ?_⟩
     refine ent_weaken [.cells (qC (Ax W j))] rfl rfl (Nat.zero_le _) (by simp [lnH, AB.low, C.lowL, C.low]) rfl ?_
     simp (maxSteps := 2000000) only [go_sem, reduceIte, Nat.reduceEqDiff, Nat.reduceAdd, Nat.reduceLT, Dh, qs]
     all_goals first | exact .refl _ | exact ⟨.refl _, .refl _⟩ | exact ⟨.refl _, .refl _, .refl _⟩ | exact ⟨.refl _, _, rfl⟩ | exact ⟨_, rfl⟩ | exact ⟨.refl _, [], by simp⟩ | exact ⟨[], by simp⟩
   ·have hj' : j = W.length := by simp at h; omega
    have hf2 : Fy a b = none := by rw [hF]; exact aEQ (fun m y hm hy => hall m y (by omega) hy)
    rw [hf2]
    simp (maxSteps := 2000000) only [go_sem, reduceIte, Nat.reduceEqDiff, Nat.reduceAdd, Dh, lnC, Option.isSome_none]
    all_goals first | exact .refl _ | exact ⟨.refl _, .refl _⟩ | exact ⟨.refl _, .refl _, .refl _⟩ | exact ⟨.refl _, _, rfl⟩ | exact ⟨_, rfl⟩ | exact ⟨.refl _, [], by simp⟩ | exact ⟨[], by simp⟩
end Go.Proofs.YtfgdbeijjbijnaaGreatDoor
set_option linter.unusedSimpArgs false
set_option linter.unusedVariables false
set_option maxRecDepth 100000
namespace Go.Proofs.YtfgdbeijjbijnaaGreatDoor
open Go Go.Abs Go.Proofs
def aCZ : List (Nat × List Nat) := [(0, [0]), (1, [2])]
theorem B4 : lookK aCZ 0 = some [0] ∧ lookK aCZ 1 = some [2] := ⟨rfl, rfl⟩
def HZ : List (Nat × List Nat) := [(0, [0, 1, 2]), (1, [0, 1, 2, 7]), (2, [0, 1, 2, 7, 11]), (3, [0, 1, 2, 7]), (4, [0, 1, 2, 7, 47]), (5, [6]), (6, [6])]
theorem B5 : lookK HZ 0 = some [0, 1, 2] ∧ lookK HZ 1 = some [0, 1, 2, 7] ∧ lookK HZ 2 = some [0, 1, 2, 7, 11] ∧ lookK HZ 3 = some [0, 1, 2, 7] ∧ lookK HZ 4 = some [0, 1, 2, 7, 47] ∧ lookK HZ 5 = some [6] ∧ lookK HZ 6 = some [6] := ⟨rfl, rfl, rfl, rfl, rfl, rfl, rfl⟩
def Fr : List (Nat × List Nat) := [(0, [1]), (1, [1, 14]), (2, [2]), (3, [1, 3]), (4, [1, 3, 19]), (5, [1, 3]), (6, [1, 3, 28]), (7, [2]), (8, [1, 32]), (9, [2]), (10, [1, 4]), (11, [1, 4, 37]), (12, [1, 4]), (13, [1, 4, 46]), (14, [2]), (15, [2])]
theorem Di : lookK Fr 0 = some [1] ∧ lookK Fr 1 = some [1, 14] ∧ lookK Fr 2 = some [2] ∧ lookK Fr 3 = some [1, 3] ∧ lookK Fr 4 = some [1, 3, 19] ∧ lookK Fr 5 = some [1, 3] ∧ lookK Fr 6 = some [1, 3, 28] ∧ lookK Fr 7 = some [2] ∧ lookK Fr 8 = some [1, 32] ∧ lookK Fr 9 = some [2] ∧ lookK Fr 10 = some [1, 4] ∧ lookK Fr 11 = some [1, 4, 37] ∧ lookK Fr 12 = some [1, 4] ∧ lookK Fr 13 = some [1, 4, 46] ∧ lookK Fr 14 = some [2] ∧ lookK Fr 15 = some [2] := ⟨rfl, rfl, rfl, rfl, rfl, rfl, rfl, rfl, rfl, rfl, rfl, rfl, rfl, rfl, rfl, rfl⟩
def Le : List (Nat × List Nat) := [(0, [1]), (1, [1, 13]), (2, [2]), (3, [1, 3]), (4, [1, 3, 18]), (5, [1, 3]), (6, [1, 3, 27]), (7, [2]), (8, [2])]
theorem Dj : lookK Le 0 = some [1] ∧ lookK Le 1 = some [1, 13] ∧ lookK Le 2 = some [2] ∧ lookK Le 3 = some [1, 3] ∧ lookK Le 4 = some [1, 3, 18] ∧ lookK Le 5 = some [1, 3] ∧ lookK Le 6 = some [1, 3, 27] ∧ lookK Le 7 = some [2] ∧ lookK Le 8 = some [2] := ⟨rfl, rfl, rfl, rfl, rfl, rfl, rfl, rfl, rfl⟩
def aC0 : List (Nat × List Nat) := [(0, [2, 3]), (1, [2, 3, 7]), (2, [4]), (3, [4])]
theorem Dk : lookK aC0 0 = some [2, 3] ∧ lookK aC0 1 = some [2, 3, 7] ∧ lookK aC0 2 = some [4] ∧ lookK aC0 3 = some [4] := ⟨rfl, rfl, rfl, rfl⟩
def aC1 : List (Nat × List Nat) := [(0, [3, 4, 5]), (1, [6])]
theorem B6 : lookK aC1 0 = some [3, 4, 5] ∧ lookK aC1 1 = some [6] := ⟨rfl, rfl⟩
def aC2 : List (Nat × List Nat) := [(0, [2, 3, 4]), (1, [4])]
theorem B7 : lookK aC2 0 = some [2, 3, 4] ∧ lookK aC2 1 = some [4] := ⟨rfl, rfl⟩
def TB : List (Nat × List Nat) := [(0, [2, 3]), (1, [5]), (2, [4])]
theorem B8 : lookK TB 0 = some [2, 3] ∧ lookK TB 1 = some [5] ∧ lookK TB 2 = some [4] := ⟨rfl, rfl, rfl⟩
def Aq : List (Nat × List Nat) := [(0, [0]), (1, [0, 3]), (2, [0, 3, 4]), (3, [0, 3, 4, 16]), (4, [0, 3, 4]), (5, [0, 3, 4, 46]), (6, [0, 3, 4]), (7, [0, 3, 5]), (8, [0, 3, 5, 6]), (9, [0, 3, 5, 6, 7]), (10, [0, 3, 5, 6, 7, 8]), (11, [0, 3, 5, 6, 7, 8, 63]), (12, [0, 3, 5, 6, 7, 8]), (13, [0, 3, 5, 6, 7, 8, 71]), (14, [0, 3, 5, 6, 7, 8, 9]), (15, [0, 3, 5, 6, 7, 8, 101]), (16, [0, 3, 5, 6, 7, 8]), (17, [0, 3, 5, 7, 113]), (18, [2]), (19, [0, 3, 5])]
theorem Ak : lookK Aq 0 = some [0] ∧ lookK Aq 1 = some [0, 3] ∧ lookK Aq 2 = some [0, 3, 4] ∧ lookK Aq 3 = some [0, 3, 4, 16] ∧ lookK Aq 4 = some [0, 3, 4] ∧ lookK Aq 5 = some [0, 3, 4, 46] ∧ lookK Aq 6 = some [0, 3, 4] ∧ lookK Aq 7 = some [0, 3, 5] ∧ lookK Aq 8 = some [0, 3, 5, 6] ∧ lookK Aq 9 = some [0, 3, 5, 6, 7] ∧ lookK Aq 10 = some [0, 3, 5, 6, 7, 8] ∧ lookK Aq 11 = some [0, 3, 5, 6, 7, 8, 63] ∧ lookK Aq 12 = some [0, 3, 5, 6, 7, 8] ∧ lookK Aq 13 = some [0, 3, 5, 6, 7, 8, 71] ∧ lookK Aq 14 = some [0, 3, 5, 6, 7, 8, 9] ∧ lookK Aq 15 = some [0, 3, 5, 6, 7, 8, 101] ∧ lookK Aq 16 = some [0, 3, 5, 6, 7, 8] ∧ lookK Aq 17 = some [0, 3, 5, 7, 113] ∧ lookK Aq 18 = some [2] ∧ lookK Aq 19 = some [0, 3, 5] := ⟨rfl, rfl, rfl, rfl, rfl, rfl, rfl, rfl, rfl, rfl, rfl, rfl, rfl, rfl, rfl, rfl, rfl, rfl, rfl, rfl⟩
theorem aER (l : List (Int × Int)) : AF Tryz.prog 126 [qs l] (B (decide ((1 : Int) ≤ l.length) && decide ((l.length : Int) ≤ 12))) := by
 refine pure_wkE (bad := []) (kp := aCZ) (X := tx) (nt := 11) (rs := [.tmp 2]) Tryz.func126 rfl rfl rfl rfl mo (by kernel_rfl) rfl rfl (fun hf => ?_)
 by_cases h : (1 : Int) ≤ l.length
 ·simp (maxSteps := 2000000) only [go_sem, reduceIte, Nat.reduceEqDiff, Nat.reduceAdd, B4, B5, Di, Dj, Dk, B6, B7, B8, Ak, qs, h, Bool.true_and]
  all_goals first | exact .refl _ | exact ⟨.refl _, .refl _⟩ | exact ⟨.refl _, .refl _, .refl _⟩ | exact ⟨.refl _, _, rfl⟩ | exact ⟨_, rfl⟩ | exact ⟨.refl _, [], by simp⟩ | exact ⟨[], by simp⟩
 ·simp (maxSteps := 2000000) only [go_sem, reduceIte, Nat.reduceEqDiff, Nat.reduceAdd, B4, B5, Di, Dj, Dk, B6, B7, B8, Ak, qs, h, Bool.false_and]
  all_goals first | exact .refl _ | exact ⟨.refl _, .refl _⟩ | exact ⟨.refl _, .refl _, .refl _⟩ | exact ⟨.refl _, _, rfl⟩ | exact ⟨_, rfl⟩ | exact ⟨.refl _, [], by simp⟩ | exact ⟨[], by simp⟩
theorem aG7 {lo hi : Int} {p : Int × Int} (h : p.1 < lo) : CZ lo hi p = true := by simp [CZ]; omega
theorem aG8 {lo hi : Int} {p : Int × Int} (h : hi < p.1) : CZ lo hi p = true := by simp [CZ]; omega
theorem aG9 {lo hi : Int} {p : Int × Int} (h : p.2 < lo) : CZ lo hi p = true := by simp [CZ]; omega
theorem aHa {lo hi : Int} {p : Int × Int} (h : hi < p.2) : CZ lo hi p = true := by simp [CZ]; omega
theorem aES {lo hi : Int} {p : Int × Int} (h1 : ¬ p.1 < lo) (h2 : ¬ hi < p.1) (h3 : ¬ p.2 < lo) (h4 : ¬ hi < p.2) : CZ lo hi p = false := by simp [CZ]; omega
set_option maxHeartbeats 2000000 in
theorem UA (l : List (Int × Int)) (lo hi : Int) : AF Tryz.prog 127 [qs l, I lo, I hi] (B (!l.any (CZ lo hi))) := by
 refine pure_wkE (bad := []) (kp := HZ) (X := tx) (nt := 48) (rs := [.tmp 6]) Tryz.func127 rfl rfl rfl rfl mo (by kernel_rfl) rfl rfl (fun hf => ?_)
 have hfit : l.length ≤ 140737488355328 := aCD (hf (qs l) (by simp))
 simp (maxSteps := 2000000) only [go_sem, reduceIte, Nat.reduceEqDiff, Nat.reduceAdd, B4, B5, Di, Dj, Dk, B6, B7, B8, Ak, qs]
 refine goE_loop (bad := []) (kp := HZ) (fun i : Nat => { slots := [(0, qs l), (1, I lo), (2, I hi), (7, I i)], heap := [], marks := [] }) (fun i => i ≤ l.length ∧ ∀ j x, j < i → l[j]? = some x → CZ lo hi x = false) (fun i => l.length - i) 0 mo (by kernel_rfl) ?_ ⟨Nat.zero_le _, by intro j r h; omega⟩ ?_
 ·exact Ent.refl
 rintro i ⟨hi', hall⟩
 simp (maxSteps := 2000000) only [go_sem, reduceIte, Nat.reduceEqDiff, Nat.reduceAdd, B4, B5, Di, Dj, Dk, B6, B7, B8, Ak, qs]
 refine goE_if (fun h => ?_) (fun h => ?_)
 ·have hlt : i < l.length := by simpa using h
  obtain ⟨x, hx⟩ := AD hlt
  have hany : CZ lo hi x = true → l.any (CZ lo hi) = true := fun e => List.any_eq_true.2 ⟨x, List.mem_of_getElem? hx, e⟩
  have cx : (decide ((0 : Int) ≤ (i : Int)) && decide ((i : Int) < (l.length : Int))) = true := by simp; omega
  have hmu : l.length - (i + 1) < l.length - i := by omega
  by_cases h1 : x.1 < lo
  ·have e := hany (aG7 h1)
   simp (maxSteps := 2000000) only [go_sem, reduceIte, Nat.reduceEqDiff, Nat.reduceAdd, Nat.reduceLeDiff, Nat.reduceBEq, B4, B5, Di, Dj, Dk, B6, B7, B8, Ak, hx, qD, cx, h1, e]
   all_goals first | exact .refl _ | exact ⟨.refl _, .refl _⟩ | exact ⟨.refl _, .refl _, .refl _⟩ | exact ⟨.refl _, _, rfl⟩ | exact ⟨_, rfl⟩ | exact ⟨.refl _, [], by simp⟩ | exact ⟨[], by simp⟩
  by_cases h2 : hi < x.1
  ·have e := hany (aG8 h2)
   simp (maxSteps := 2000000) only [go_sem, reduceIte, Nat.reduceEqDiff, Nat.reduceAdd, Nat.reduceLeDiff, Nat.reduceBEq, B4, B5, Di, Dj, Dk, B6, B7, B8, Ak, hx, qD, cx, h1, h2, e]
   all_goals first | exact .refl _ | exact ⟨.refl _, .refl _⟩ | exact ⟨.refl _, .refl _, .refl _⟩ | exact ⟨.refl _, _, rfl⟩ | exact ⟨_, rfl⟩ | exact ⟨.refl _, [], by simp⟩ | exact ⟨[], by simp⟩
  by_cases h3 : x.2 < lo
  ·have e := hany (aG9 h3)
   simp (maxSteps := 2000000) only [go_sem, reduceIte, Nat.reduceEqDiff, Nat.reduceAdd, Nat.reduceLeDiff, Nat.reduceBEq, B4, B5, Di, Dj, Dk, B6, B7, B8, Ak, hx, qD, cx, h1, h2, h3, e]
   all_goals first | exact .refl _ | exact ⟨.refl _, .refl _⟩ | exact ⟨.refl _, .refl _, .refl _⟩ | exact ⟨.refl _, _, rfl⟩ | exact ⟨_, rfl⟩ | exact ⟨.refl _, [], by simp⟩ | exact ⟨[], by simp⟩
  by_cases h4 : hi < x.2
  ·have e := hany (aHa h4)
   simp (maxSteps := 2000000) only [go_sem, reduceIte, Nat.reduceEqDiff, Nat.reduceAdd, Nat.reduceLeDiff, Nat.reduceBEq, B4, B5, Di, Dj, Dk, B6, B7, B8, Ak, hx, qD, cx, h1, h2, h3, h4, e]
   all_goals first | exact .refl _ | exact ⟨.refl _, .refl _⟩ | exact ⟨.refl _, .refl _, .refl _⟩ | exact ⟨.refl _, _, rfl⟩ | exact ⟨_, rfl⟩ | exact ⟨.refl _, [], by simp⟩ | exact ⟨[], by simp⟩
  simp (maxSteps := 2000000) only [go_sem, reduceIte, Nat.reduceEqDiff, Nat.reduceAdd, Nat.reduceLeDiff, Nat.reduceBEq, B4, B5, Di, Dj, Dk, B6, B7, B8, Ak, hx, qD, cx, h1, h2, h3, h4, Az hlt hfit]
  refine ⟨i + 1, ⟨hlt, Bw hall hx (aES h1 h2 h3 h4)⟩, hmu, ?_⟩
  refine ent_weaken [] rfl rfl (Nat.le_refl _) rfl rfl ?_
  simp (maxSteps := 2000000) only [go_sem, reduceIte, Nat.reduceEqDiff, B4, B5, Di, Dj, Dk, B6, B7, B8, Ak, qs]
  all_goals first | exact .refl _ | exact ⟨.refl _, .refl _⟩ | exact ⟨.refl _, .refl _, .refl _⟩ | exact ⟨.refl _, _, rfl⟩ | exact ⟨_, rfl⟩ | exact ⟨.refl _, [], by simp⟩ | exact ⟨[], by simp⟩
 ·have hi'' : i = l.length := by simp at h; omega
  have e : l.any (CZ lo hi) = false := KQ (fun j x hj hx => hall j x (by omega) hx)
  simp (maxSteps := 2000000) only [go_sem, reduceIte, Nat.reduceEqDiff, Nat.reduceAdd, B4, B5, Di, Dj, Dk, B6, B7, B8, Ak, e]
  all_goals first | exact .refl _ | exact ⟨.refl _, .refl _⟩ | exact ⟨.refl _, .refl _, .refl _⟩ | exact ⟨.refl _, _, rfl⟩ | exact ⟨_, rfl⟩ | exact ⟨.refl _, [], by simp⟩ | exact ⟨[], by simp⟩
def gE (l : List (Int × Int)) : Int := if l.any (CZ 0 1000) = true then 3 else 0
set_option maxHeartbeats 1000000 in
theorem Fs (l : List (Int × Int)) (h1 : 1 ≤ l.length) (h12 : l.length ≤ 12) : AF Tryz.prog 51 [glV l] (I (gE l)) := by
 refine pure_wkE (bad := []) (kp := Fr) (X := tx) (nt := 47) (rs := [.tmp 2]) Tryz.func51 rfl rfl rfl rfl mo (by kernel_rfl) rfl rfl (fun hf => ?_)
 have hm := aER l
 have hw := UA l 0 1000
 rw [decide_eq_true (show (1 : Int) ≤ l.length by omega), decide_eq_true (show (l.length : Int) ≤ 12 by omega)] at hm
 simp only [qs] at hm hw
 simp (maxSteps := 2000000) only [go_sem, reduceIte, Nat.reduceEqDiff, Nat.reduceAdd, Nat.reduceLeDiff, Nat.reduceBEq, Int.reduceNeg, B4, B5, Di, Dj, Dk, B6, B7, B8, Ak, glV, glC]
 refine Ac (hm) rfl rfl (by first | exact wk_refls _ | (repeat constructor)) ?_
 simp (maxSteps := 2000000) only [go_sem, reduceIte, Nat.reduceEqDiff, Nat.reduceAdd, Nat.reduceBEq, Int.reduceNeg, Int.reduceLT, B4, B5, Di, Dj, Dk, B6, B7, B8, Ak]
 refine Ah 1 ?_
 refine Aa (bad := []) (kp := Fr) mo (by kernel_rfl) ?_
 simp (maxSteps := 2000000) only [go_sem, reduceIte, Nat.reduceEqDiff, Nat.reduceAdd, Nat.reduceLeDiff, Nat.reduceBEq, Int.reduceNeg, Int.reduceLT, B4, B5, Di, Dj, Dk, B6, B7, B8, Ak]
 refine Ac (hw) rfl rfl (by first | exact wk_refls _ | (repeat constructor)) ?_
 cases h : l.any (CZ 0 1000) with
 | true =>
  have e : gE l = 3 := by unfold gE; rw [h]; rfl
  simp (maxSteps := 2000000) only [go_sem, reduceIte, Nat.reduceEqDiff, Nat.reduceAdd, Int.reduceNeg, B4, B5, Di, Dj, Dk, B6, B7, B8, Ak, e]
  all_goals first | exact .refl _ | exact ⟨.refl _, .refl _⟩ | exact ⟨.refl _, .refl _, .refl _⟩ | exact ⟨.refl _, _, rfl⟩ | exact ⟨_, rfl⟩ | exact ⟨.refl _, [], by simp⟩ | exact ⟨[], by simp⟩
 | false =>
  have e : gE l = 0 := by unfold gE; rw [h]; rfl
  simp (maxSteps := 2000000) only [go_sem, reduceIte, Nat.reduceEqDiff, Nat.reduceAdd, Int.reduceNeg, B4, B5, Di, Dj, Dk, B6, B7, B8, Ak]
  refine Ah 1 ?_
  refine Aa (bad := []) (kp := Fr) mo (by kernel_rfl) ?_
  simp (maxSteps := 2000000) only [go_sem, reduceIte, Nat.reduceEqDiff, Nat.reduceAdd, Nat.reduceBEq, Int.reduceNeg, Int.reduceLT, B4, B5, Di, Dj, Dk, B6, B7, B8, Ak, e]
  all_goals first | exact .refl _ | exact ⟨.refl _, .refl _⟩ | exact ⟨.refl _, .refl _, .refl _⟩ | exact ⟨.refl _, _, rfl⟩ | exact ⟨_, rfl⟩ | exact ⟨.refl _, [], by simp⟩ | exact ⟨[], by simp⟩
set_option maxHeartbeats 1000000 in
theorem TC (l : List (Int × Int)) (h1 : 1 ≤ l.length) (h12 : l.length ≤ 12) : AF Tryz.prog 14 [glV l] (B (!l.any (CZ 0 1000))) := by
 refine pure_wkE (bad := []) (kp := Le) (X := tx) (nt := 31) (rs := [.tmp 2]) Tryz.func14 rfl rfl rfl rfl mo (by kernel_rfl) rfl rfl (fun hf => ?_)
 have hg := Fs l h1 h12
 have e20 : ¬ (20 : Int) < l.length := by omega
 simp only [glV, glC] at hg
 simp (maxSteps := 2000000) only [go_sem, reduceIte, Nat.reduceEqDiff, Nat.reduceAdd, Nat.reduceLeDiff, Nat.reduceBEq, Int.reduceLT, B4, B5, Di, Dj, Dk, B6, B7, B8, Ak, glV, glC, e20]
 refine Ah 1 ?_
 refine Aa (bad := []) (kp := Le) mo (by kernel_rfl) ?_
 simp (maxSteps := 2000000) only [go_sem, reduceIte, Nat.reduceEqDiff, Nat.reduceAdd, Nat.reduceBEq, Int.reduceLT, B4, B5, Di, Dj, Dk, B6, B7, B8, Ak]
 refine Ac (hg) rfl rfl (by first | exact wk_refls _ | (repeat constructor)) ?_
 cases h : l.any (CZ 0 1000) with
 | true =>
  have e : gE l = 3 := by unfold gE; rw [h]; rfl
  simp (maxSteps := 2000000) only [go_sem, reduceIte, Nat.reduceEqDiff, Int.reduceEq, B4, B5, Di, Dj, Dk, B6, B7, B8, Ak, e]
  all_goals first | exact .refl _ | exact ⟨.refl _, .refl _⟩ | exact ⟨.refl _, .refl _, .refl _⟩ | exact ⟨.refl _, _, rfl⟩ | exact ⟨_, rfl⟩ | exact ⟨.refl _, [], by simp⟩ | exact ⟨[], by simp⟩
 | false =>
  have e : gE l = 0 := by unfold gE; rw [h]; rfl
  simp (maxSteps := 2000000) only [go_sem, reduceIte, Nat.reduceEqDiff, B4, B5, Di, Dj, Dk, B6, B7, B8, Ak, e]
  all_goals first | exact .refl _ | exact ⟨.refl _, .refl _⟩ | exact ⟨.refl _, .refl _, .refl _⟩ | exact ⟨.refl _, _, rfl⟩ | exact ⟨_, rfl⟩ | exact ⟨.refl _, [], by simp⟩ | exact ⟨[], by simp⟩
set_option maxHeartbeats 1000000 in
theorem aO5 {l m : List (Int × Int)} (h1 : gE l = 0) (h2 : gE m = 0) (a1 : 1 ≤ l.length) (a2 : l.length ≤ 12) (b1 : 1 ≤ m.length) (b2 : m.length ≤ 12) : AF Tryz.prog 60 [glV l, glV m] (I 0) := by
 refine pure_wkE (bad := []) (kp := aC0) (X := tx) (nt := 12) (rs := [.tmp 4]) Tryz.func60 rfl rfl rfl rfl mo (by kernel_rfl) rfl rfl (fun hf => ?_)
 have hg := Fs l a1 a2
 have hm := Fs m b1 b2
 rw [h1] at hg
 rw [h2] at hm
 simp only [glV, glC] at hg hm
 simp (maxSteps := 2000000) only [go_sem, reduceIte, Nat.reduceEqDiff, Nat.reduceAdd, B4, B5, Di, Dj, Dk, B6, B7, B8, Ak, glV, glC]
 refine Ac (hg) rfl rfl (by first | exact wk_refls _ | (repeat constructor)) ?_
 simp (maxSteps := 2000000) only [go_sem, reduceIte, Nat.reduceEqDiff, Nat.reduceAdd, B4, B5, Di, Dj, Dk, B6, B7, B8, Ak]
 refine Ac (hm) rfl rfl (by first | exact wk_refls _ | (repeat constructor)) ?_
 simp (maxSteps := 2000000) only [go_sem, reduceIte, Nat.reduceEqDiff, B4, B5, Di, Dj, Dk, B6, B7, B8, Ak]
 all_goals first | exact .refl _ | exact ⟨.refl _, .refl _⟩ | exact ⟨.refl _, .refl _, .refl _⟩ | exact ⟨.refl _, _, rfl⟩ | exact ⟨_, rfl⟩ | exact ⟨.refl _, [], by simp⟩ | exact ⟨[], by simp⟩
set_option maxHeartbeats 1000000 in
theorem aC3 {p q : Int × Int} (hp : Bd 1000000 p) (hq : Bd 1000000 q) : AF Tryz.prog 308 [qV p, qV q] (qV (Be p q)) := by
 refine pure_wkE (bad := []) (kp := aC2) (X := tx) (nt := 16) (rs := [.cell 4 51]) Tryz.func308 rfl rfl rfl rfl mo (by kernel_rfl) rfl rfl (fun hf => ?_)
 obtain ⟨w1, w2⟩ := Ol hp hq
 simp (maxSteps := 2000000) only [go_sem, reduceIte, Nat.reduceEqDiff, Nat.reduceAdd, Nat.reduceLeDiff, Nat.reduceBEq, B4, B5, Di, Dj, Dk, B6, B7, B8, Ak, qV, qC, Be, w1, w2]
 all_goals first | exact .refl _ | exact ⟨.refl _, .refl _⟩ | exact ⟨.refl _, .refl _, .refl _⟩ | exact ⟨.refl _, _, rfl⟩ | exact ⟨_, rfl⟩ | exact ⟨.refl _, [], by simp⟩ | exact ⟨[], by simp⟩
set_option maxHeartbeats 1000000 in
theorem Bk {a b c : Int × Int} (ha : Bd 1000 a) (hb : Bd 1000 b) (hc : Bd 1000 c) : AF Tryz.prog 227 [qV a, qV b, qV c] (I (Cw (Be b a) (Be c a))) := by
 refine pure_wkE (bad := []) (kp := aC1) (X := tx) (nt := 30) (rs := [.tmp 6]) Tryz.func227 rfl rfl rfl rfl mo (by kernel_rfl) rfl rfl (fun hf => ?_)
 obtain ⟨w1, w2⟩ := Ol (AR hb) (AR ha)
 obtain ⟨w3, w4⟩ := Ol (AR hc) (AR ha)
 obtain ⟨w5, w6, w7, _⟩ := IC (DD hb ha) (DD hc ha)
 simp only [Be] at w5 w6 w7
 simp (maxSteps := 2000000) only [go_sem, reduceIte, Nat.reduceEqDiff, Nat.reduceAdd, Nat.reduceLeDiff, Nat.reduceBEq, B4, B5, Di, Dj, Dk, B6, B7, B8, Ak, qV, qC, Cw, Be, w1, w2, w3, w4, w5, w6, w7]
 all_goals first | exact .refl _ | exact ⟨.refl _, .refl _⟩ | exact ⟨.refl _, .refl _, .refl _⟩ | exact ⟨.refl _, _, rfl⟩ | exact ⟨_, rfl⟩ | exact ⟨.refl _, [], by simp⟩ | exact ⟨[], by simp⟩
set_option maxHeartbeats 1000000 in
theorem Ow {a b : Int × Int} (ha : Bd 1000 a) (hb : Bd 1000 b) : AF Tryz.prog 228 [qV a, qV b] (I (BJ (Be a b) (Be a b))) := by
 refine pure_wkE (bad := []) (kp := TB) (X := tx) (nt := 20) (rs := [.tmp 4]) Tryz.func228 rfl rfl rfl rfl mo (by kernel_rfl) rfl rfl (fun hf => ?_)
 have hm := aC3 (AR ha) (AR hb)
 obtain ⟨_, _, _, w1, w2, w3⟩ := IC (DD ha hb) (DD ha hb)
 simp only [qV, qC, Be] at hm w1 w2 w3
 simp (maxSteps := 2000000) only [go_sem, reduceIte, Nat.reduceEqDiff, Nat.reduceAdd, B4, B5, Di, Dj, Dk, B6, B7, B8, Ak, qV, qC]
 refine Ac (hm) rfl rfl (by first | exact wk_refls _ | (repeat constructor)) ?_
 simp (maxSteps := 2000000) only [go_sem, reduceIte, Nat.reduceEqDiff, Nat.reduceAdd, Nat.reduceLeDiff, Nat.reduceBEq, B4, B5, Di, Dj, Dk, B6, B7, B8, Ak, BJ, Be, w1, w2, w3]
 all_goals first | exact .refl _ | exact ⟨.refl _, .refl _⟩ | exact ⟨.refl _, .refl _, .refl _⟩ | exact ⟨.refl _, _, rfl⟩ | exact ⟨_, rfl⟩ | exact ⟨.refl _, [], by simp⟩ | exact ⟨[], by simp⟩
end Go.Proofs.YtfgdbeijjbijnaaGreatDoor
