/- Metamers: spans. -/
import Derived.Test.YtfgdbeijjbijnaaGreatDoorJG19
set_option linter.unusedSimpArgs false
set_option linter.unusedVariables false
set_option linter.unusedSimpArgs false
set_option linter.unusedVariables false
set_option maxRecDepth 100000
namespace Go.Proofs.YtfgdbeijjbijnaaGreatDoor.Me
open Go Go.Abs Go.Proofs
def Fm : List (Nat × List Nat) := [(0, [1, 2]), (1, [1, 2, 5, 6]), (2, [2, 5, 6, 21, 22, 23]), (3, [2, 5, 6, 21, 22, 23, 24]), (4, [2, 5, 6, 7, 8, 21, 22, 23]), (5, [2, 5, 6, 21, 22, 23]), (6, [2, 5, 6, 21, 22, 23]), (7, [2, 6, 9, 10]), (8, [9, 10, 11, 12]), (9, [9, 10, 11, 12, 13]), (10, [9, 10, 11, 12, 13, 61, 62]), (11, [9, 10, 11, 12, 13, 61, 62, 63]), (12, [9, 10, 11, 12, 13, 14, 61, 62]), (13, [9, 10, 11, 12, 13, 61, 62]), (14, [9, 10, 11, 12, 13, 61, 62]), (15, [4])]
theorem GZ : lookK Fm 0 = some [1, 2] ∧ lookK Fm 1 = some [1, 2, 5, 6] ∧ lookK Fm 2 = some [2, 5, 6, 21, 22, 23] ∧ lookK Fm 3 = some [2, 5, 6, 21, 22, 23, 24] ∧ lookK Fm 4 = some [2, 5, 6, 7, 8, 21, 22, 23] ∧ lookK Fm 5 = some [2, 5, 6, 21, 22, 23] ∧ lookK Fm 6 = some [2, 5, 6, 21, 22, 23] ∧ lookK Fm 7 = some [2, 6, 9, 10] ∧ lookK Fm 8 = some [9, 10, 11, 12] ∧ lookK Fm 9 = some [9, 10, 11, 12, 13] ∧ lookK Fm 10 = some [9, 10, 11, 12, 13, 61, 62] ∧ lookK Fm 11 = some [9, 10, 11, 12, 13, 61, 62, 63] ∧ lookK Fm 12 = some [9, 10, 11, 12, 13, 14, 61, 62] ∧ lookK Fm 13 = some [9, 10, 11, 12, 13, 61, 62] ∧ lookK Fm 14 = some [9, 10, 11, 12, 13, 61, 62] ∧ lookK Fm 15 = some [4] := ⟨rfl, rfl, rfl, rfl, rfl, rfl, rfl, rfl, rfl, rfl, rfl, rfl, rfl, rfl, rfl, rfl⟩
theorem aOU (a b : Int) : L4 a [b] = min a b := rfl
theorem aOV (a b : Int) : Jz a [b] = max a b := rfl
def Iy (f g : Nat → Int) : Nat → Int := fun j => if j % 2 = 0 then f (j / 2) else g (j / 2)
theorem aEt (f g : Nat → Int) (i : Nat) : Iy f g (i * 2) = f i := by
 have h1 : i * 2 % 2 = 0 := by omega
 have h2 : i * 2 / 2 = i := by omega
 simp only [Iy, h1, h2, if_true]
theorem aEu (f g : Nat → Int) (i : Nat) : Iy f g (i * 2 + 1) = g i := by
 have h1 : ¬ (i * 2 + 1) % 2 = 0 := by omega
 have h2 : (i * 2 + 1) / 2 = i := by omega
 simp only [Iy, h1, h2, if_false]
theorem aCb (f g : Nat → Int) (i : Nat) (v : Int) : upd (Iy f g) (i * 2) v = Iy (upd f i v) g := by
 funext j
 by_cases h : j = i * 2
 ·rw [h, Ao, aEt, Ao]
 ·rw [AJ _ _ h]
  simp only [Iy]
  split
  ·rw [AJ _ _ (by omega)]
  ·rfl
theorem aCc (f g : Nat → Int) (i : Nat) (v : Int) : upd (Iy f g) (i * 2 + 1) v = Iy f (upd g i v) := by
 funext j
 by_cases h : j = i * 2 + 1
 ·rw [h, Ao, aEu, Ao]
 ·rw [AJ _ _ h]
  simp only [Iy]
  split
  ·rfl
  ·rw [AJ _ _ (by omega)]
def Mk (f g : Nat → Int) : List C := AH 6 (Iy f g)
theorem Tq (n : Nat) (f g : Nat → Int) : C.lowL n (Mk f g) = true := Ba _ _ _
theorem aEv (f g : Nat → Int) : (Mk f g).length = 6 := BI _ _
theorem aEw (f g : Nat → Int) (i : Nat) (v : Int) : (Mk f g).set (i * 2) (.d (.int .i64 v)) = Mk (upd f i v) g := by rw [Mk, Dx, aCb]; rfl
theorem aEx (f g : Nat → Int) (i : Nat) (v : Int) : (Mk f g).set (i * 2 + 1) (.d (.int .i64 v)) = Mk f (upd g i v) := by rw [Mk, Dx, aCc]; rfl
theorem Uj (f g : Nat → Int) : BC 2 3 (Bo 6 (Iy f g)) = [rgD ⟨f 0, g 0⟩, rgD ⟨f 1, g 1⟩, rgD ⟨f 2, g 2⟩] := rfl
def FV (c : Cs) (l : List Int) (k b : Nat) : Int := CN (fun b => min (pL c k b * gI l b) (pH c k b * gI l b)) b
def FW (c : Cs) (l : List Int) (k b : Nat) : Int := CN (fun b => max (pL c k b * gI l b) (pH c k b * gI l b)) b
def spansL (c : Cs) (l : List Int) : List Rg := [⟨FV c l 0 l.length, FW c l 0 l.length⟩, ⟨FV c l 1 l.length, FW c l 1 l.length⟩, ⟨FV c l 2 l.length, FW c l 2 l.length⟩]
theorem RR {c : Cs} (hc : OkC c) {l : List Int} (hl : EU l) {k b : Nat} (hk : k < 3) (hb : b ≤ l.length) : -80000000 ≤ FV c l k b ∧ FV c l k b ≤ 80000000 := by
 have h := Fj (f := fun b => min (pL c k b * gI l b) (pH c k b * gI l b)) (n := b) (fun j hj => by
  have h1 := DB (hl.g (show j < l.length by omega)) (hc.okL l.length k j hk (by omega))
  have h2 := DB (hl.g (show j < l.length by omega)) (hc.okH l.length k j hk (by omega))
  simp only [Int.mul_comm (pL c k j), Int.mul_comm (pH c k j)]
  omega)
 have := hl.n8
 unfold FV
 omega
theorem RS {c : Cs} (hc : OkC c) {l : List Int} (hl : EU l) {k b : Nat} (hk : k < 3) (hb : b ≤ l.length) : -80000000 ≤ FW c l k b ∧ FW c l k b ≤ 80000000 := by
 have h := Fj (f := fun b => max (pL c k b * gI l b) (pH c k b * gI l b)) (n := b) (fun j hj => by
  have h1 := DB (hl.g (show j < l.length by omega)) (hc.okL l.length k j hk (by omega))
  have h2 := DB (hl.g (show j < l.length by omega)) (hc.okH l.length k j hk (by omega))
  simp only [Int.mul_comm (pL c k j), Int.mul_comm (pH c k j)]
  omega)
 have := hl.n8
 unfold FW
 omega
theorem KX {x : Int} (h : -200000000 ≤ x ∧ x ≤ 200000000) : wr .i64 x = x := by rw [Cl] <;> omega
def upL (l : List Int) : List Int := (List.range l.length).map (fun k => max (gI l k) 0)
def dnL (l : List Int) : List Int := (List.range l.length).map (fun k => min (gI l k) 0)
def Dg (f : Nat → Int) (b : Nat) : Nat → Int := fun k => if k < b then f k else 0
theorem Iz (f : Nat → Int) : Dg f 0 = fun _ => 0 := by funext k; simp [Dg]
theorem HM {f : Nat → Int} {i : Nat} {v : Int} (h : v = f i) : upd (Dg f i) i v = Dg f (i + 1) := by
 funext k
 by_cases e : k = i
 ·subst e; rw [Ao, h]; simp [Dg]
 ·rw [AJ _ _ e]
  simp only [Dg]
  have : k < i + 1 ↔ k < i := by omega
  simp only [this]
theorem aCd (f : Nat → Int) (n : Nat) : (List.range n).map (fun k => iD (Dg f n k)) = ((List.range n).map f).map iD := by
 rw [List.map_map]
 refine List.map_congr_left fun k hk => ?_
 simp at hk
 simp [Dg, hk]
theorem JU (l : List Int) : (upL l).length = l.length := by simp [upL]
theorem JV (l : List Int) : (dnL l).length = l.length := by simp [dnL]
theorem aE5 {l : List Int} {k : Nat} (h : k < l.length) : gI (upL l) k = max (gI l k) 0 := Iw (by simp [upL, h])
theorem aE6 {l : List Int} {k : Nat} (h : k < l.length) : gI (dnL l) k = min (gI l k) 0 := Iw (by simp [dnL, h])
theorem EU.up {l : List Int} (h : EU l) : EU (upL l) := ⟨by rw [JU]; exact h.n8, fun x hx => by
 simp only [upL, List.mem_map, List.mem_range] at hx
 obtain ⟨k, hk, rfl⟩ := hx
 have := h.g hk; omega⟩
theorem EU.dn {l : List Int} (h : EU l) : EU (dnL l) := ⟨by rw [JV]; exact h.n8, fun x hx => by
 simp only [dnL, List.mem_map, List.mem_range] at hx
 obtain ⟨k, hk, rfl⟩ := hx
 have := h.g hk; omega⟩
theorem PM {p q x : Int} (h0 : 0 ≤ p) (h : p ≤ q) : max x 0 * p + min x 0 * q = min (p * x) (q * x) ∧ max x 0 * q + min x 0 * p = max (p * x) (q * x) := by
 by_cases hx : 0 ≤ x
 ·have h1 : max x 0 = x := by omega
  have h2 : min x 0 = 0 := by omega
  have h3 : p * x ≤ q * x := Int.mul_le_mul_of_nonneg_right h hx
  rw [h1, h2, Int.mul_comm x p, Int.mul_comm x q, Int.zero_mul, Int.zero_mul]; omega
 ·have h1 : max x 0 = 0 := by omega
  have h2 : min x 0 = x := by omega
  have h3 : q * x ≤ p * x := Int.mul_le_mul_of_nonpos_right h (by omega)
  rw [h1, h2, Int.mul_comm x p, Int.mul_comm x q, Int.zero_mul, Int.zero_mul]; omega
theorem aOW {c : Cs} (hc : OkC c) (l : List Int) (k : Nat) : B2 (pL c) (upL l) k + B2 (pH c) (dnL l) k = FV c l k l.length := by
 unfold B2 Ej FV
 rw [JU, JV, KV]
 refine DA fun b hb => ?_
 rw [aE5 hb, aE6 hb]
 exact (PM (by have := hc.okL 9 0 0 (by omega) (by omega); have := hc.be k b; have := hc.bl b; exact Int.mul_nonneg (by omega) (by omega)) (hc.okLH k b)).1
theorem aOX {c : Cs} (hc : OkC c) (l : List Int) (k : Nat) : B2 (pH c) (upL l) k + B2 (pL c) (dnL l) k = FW c l k l.length := by
 unfold B2 Ej FW
 rw [JU, JV, KV]
 refine DA fun b hb => ?_
 rw [aE5 hb, aE6 hb]
 exact (PM (by have := hc.be k b; have := hc.bl b; exact Int.mul_nonneg (by omega) (by omega)) (hc.okLH k b)).2
theorem aEy (n : Nat) (l : List D) : C.freeL n (l.map .d) = true := by induction l with | nil => rfl | cons a l ih => simp [C.freeL, C.free, ih]
theorem KY (m n : Nat) (f : Nat → Int) : C.freeL m (AH n f) = true := aEy _ _
theorem Ts (id n : Nat) (f : Nat → Int) (h : n ≤ lim) : FzV id (Bo n (Dg f n)) (.c (.ms id 0 n n)) (ints ((List.range n).map f)) := by
 have e : (V.c (.d (.sl (BC 1 n ((Bo n (Dg f n)).drop 0))))) = ints ((List.range n).map f) := by rw [List.drop_zero, GW, aCd]; rfl
 rw [← e]
 exact .c (.ms 0 1 n n (by rw [BV]; omega) (Nat.le_refl _) h)
theorem le8 {n : Nat} (h : n ≤ 8) : n = 0 ∨ n = 1 ∨ n = 2 ∨ n = 3 ∨ n = 4 ∨ n = 5 ∨ n = 6 ∨ n = 7 ∨ n = 8 := by omega
set_option maxHeartbeats 8000000 in
theorem aEz (c : Cs) (l : List Int) (hc : OkC c) (hl : EU l) (hn : l.length = c.lamp.length) : AF Tryz.prog 46 [csV c, ints l] (rgs (spansL c l)) := by
 refine pure_fzE (bad := [1, 7, 8, 10003]) (kp := Fm) (X := tx) (nt := 85) (rs := [.tmp 4]) Tryz.func46 rfl rfl rfl rfl mo (by kernel_rfl) rfl rfl (fun hf => ?_)
 have hn8 := hl.n8
 have he3 := hc.e3
 have hu : ∀ g P, (∀ i b : Nat, i < 3 → b < c.lamp.length → AF Tryz.prog g [csV c, I i, I b] (I (P i b))) → (∀ n, PG n P) → AF Tryz.prog 48 [csV c, ints (upL l), .c (.ma (.func g) (csC c))] (th (B2 P (upL l))) := fun g P h1 h2 =>
  aB4 c (upL l) g P hl.up (h2 _) (fun i b hi hb => h1 i b hi (by rw [JU] at hb; omega))
 have hd : ∀ g P, (∀ i b : Nat, i < 3 → b < c.lamp.length → AF Tryz.prog g [csV c, I i, I b] (I (P i b))) → (∀ n, PG n P) → AF Tryz.prog 48 [csV c, ints (dnL l), .c (.ma (.func g) (csC c))] (th (B2 P (dnL l))) := fun g P h1 h2 =>
  aB4 c (dnL l) g P hl.dn (h2 _) (fun i b hi hb => h1 i b hi (by rw [JV] at hb; omega))
 have uL := hu 121 (pL c) (fun i b hi hb => PJ c hc i b hi hb) hc.okL
 have uH := hu 122 (pH c) (fun i b hi hb => Og c hc i b hi hb) hc.okH
 have dL := hd 121 (pL c) (fun i b hi hb => PJ c hc i b hi hb) hc.okL
 have dH := hd 122 (pH c) (fun i b hi hb => Og c hc i b hi hb) hc.okH
 have d1 : ((8 : Nat) : Int) * l.length ≤ 140737488355328 := by show (8 : Int) * _ ≤ _; omega
 have d2 : (l.length : Int) ≤ ((140737488355328 : Nat) : Int) := by show (_ : Int) ≤ 140737488355328; omega
 simp (maxSteps := 2000000) only [go_sem, reduceIte, Nat.reduceEqDiff, Nat.reduceAdd, Nat.reduceLT, Nat.reduceLeDiff, Nat.reduceBEq, GZ, csV, csC, ints, PL, nn, Int.toNat_natCast, d1, d2, Int.le_refl, decide_true, Bool.true_and]
 refine ⟨by rw [KY, Ba]; rfl, by rw [KY, Ba]; rfl, ?_, ?_⟩
 ·rcases le8 hn8 with h | h | h | h | h | h | h | h | h <;> rw [h] <;> exact AE (by kernel_rfl)
 refine goE_loop (bad := [1, 7, 8, 10003]) (kp := Fm) (fun i : Nat => { slots := [(2, .c (.ptr 0 0)), (5, .c (.ms 1 0 l.length l.length)), (6, .c (.ms 2 0 l.length l.length)), (21, ints l), (22, I l.length), (23, I i)], heap := [.cells (csC c), .cells (AH l.length (Dg (fun k => max (gI l k) 0) i)), .cells (AH l.length (Dg (fun k => min (gI l k) 0) i))], marks := [] }) (fun i => i ≤ l.length) (fun i => l.length - i) 0 mo (by kernel_rfl) ?_ (Nat.zero_le _) ?_
 ·refine ent_weaken [] (by simp only [Iz, List.append_nil, csC]) rfl (Nat.zero_le _) (by simp [AB.low, Ba, csC, C.lowL, C.low]) rfl ?_
  simp (maxSteps := 2000000) only [go_sem, reduceIte, Nat.reduceEqDiff, Nat.reduceAdd, Nat.reduceLT, GZ, ints, csC]
  all_goals first | exact .refl _ | exact ⟨.refl _, .refl _⟩ | exact ⟨.refl _, .refl _, .refl _⟩ | exact ⟨.refl _, _, rfl⟩ | exact ⟨_, rfl⟩ | exact ⟨.refl _, [], by simp⟩ | exact ⟨[], by simp⟩
 rintro b hb
 simp (maxSteps := 2000000) only [go_sem, reduceIte, Nat.reduceEqDiff, Nat.reduceAdd, Nat.reduceBEq, GZ, csC, ints]
 by_cases hlt : b < l.length
 ·have hlt' : (b : Int) < l.length := by omega
  refine stop_mk _ Ent.refl ?_
  have g0 := ET hlt
  have m1 : l.length - (b + 1) < l.length - b := by omega
  have w3 : wr .i64 ((b : Int) + 1) = ((b + 1 : Nat) : Int) := Az hlt (by omega)
  have r3 : decide (b + 1 ≤ l.length) = true := by simp; omega
  simp (maxSteps := 2000000) only [go_sem, reduceIte, Nat.reduceEqDiff, Nat.reduceAdd, Nat.reduceBEq, GZ, hlt', g0, nn, iD, r3, w3, BI, Nat.mul_one, Nat.zero_add, aOU, aOV, Dx]
  refine ⟨b + 1, hlt, m1, ?_⟩
  refine ent_weaken [] ?_ rfl (Nat.zero_le _) (by simp [AB.low, Ba, csC, C.lowL, C.low]) rfl ?_
  ·have q1 : upd (Dg (fun k => max (gI l k) 0) b) b (max (gI l b) 0) = Dg (fun k => max (gI l k) 0) (b + 1) := HM rfl
   have q2 : upd (Dg (fun k => min (gI l k) 0) b) b (min (gI l b) 0) = Dg (fun k => min (gI l k) 0) (b + 1) := HM rfl
   simp only [q1, q2, List.append_nil, csC]
  simp (maxSteps := 2000000) only [go_sem, reduceIte, Nat.reduceEqDiff, Nat.reduceAdd, Nat.reduceLT, GZ, ints, csC]
  all_goals first | exact .refl _ | exact ⟨.refl _, .refl _⟩ | exact ⟨.refl _, .refl _, .refl _⟩ | exact ⟨.refl _, _, rfl⟩ | exact ⟨_, rfl⟩ | exact ⟨.refl _, [], by simp⟩ | exact ⟨[], by simp⟩
 have hlt' : ¬ (b : Int) < l.length := by omega
 have e : b = l.length := by omega
 subst e
 simp only [hlt', decide_false]
 refine stop_mk { slots := [(2, .c (.ptr 0 0)), (5, ints (upL l)), (6, ints (dnL l)), (24, B false)], heap := [.cells (csC c), .gone, .gone], marks := [] } ?_ ?_
 ·refine Ent.trans (ent_freeze 1 (s' := { slots := [(2, .c (.ptr 0 0)), (5, ints (upL l)), (6, .c (.ms 2 0 l.length l.length)), (24, B false)], heap := [.cells (csC c), .gone, .cells (AH l.length (Dg (fun k => min (gI l k) 0) l.length))], marks := [] }) (cs := AH l.length (Dg (fun k => max (gI l k) 0) l.length)) rfl (Iu _) rfl rfl ⟨.same _, Ts _ _ _ (by unfold lim; omega), .same _, .same _, trivial⟩) ?_
  exact ent_freeze 2 (cs := AH l.length (Dg (fun k => min (gI l k) 0) l.length)) rfl (Iu _) rfl rfl ⟨.same _, .same _, Ts _ _ _ (by unfold lim; omega), .same _, trivial⟩
 simp (maxSteps := 2000000) only [go_sem, reduceIte, Nat.reduceEqDiff, Nat.reduceAdd, Nat.reduceLeDiff, Nat.reduceBEq, Int.reduceLE, Int.reduceToNat, GZ, csC, List.isEmpty_cons]
 refine de_pure (uL) rfl rfl (by first | exact wk_refls _ | (repeat constructor)) ?_
 simp (maxSteps := 2000000) only [go_sem, reduceIte, Nat.reduceEqDiff, Nat.reduceAdd, GZ, csC, List.isEmpty_cons, th, Fl]
 refine de_pure (uH) rfl rfl (by first | exact wk_refls _ | (repeat constructor)) ?_
 simp (maxSteps := 2000000) only [go_sem, reduceIte, Nat.reduceEqDiff, Nat.reduceAdd, Nat.reduceLeDiff, GZ, csC, List.isEmpty_cons, th, Fl]
 refine ⟨AE (by kernel_rfl), ?_⟩
 refine de_pure (dH) rfl rfl (by first | exact wk_refls _ | (repeat constructor)) ?_
 simp (maxSteps := 2000000) only [go_sem, reduceIte, Nat.reduceEqDiff, Nat.reduceAdd, GZ, csC, List.isEmpty_cons, th, Fl]
 refine de_pure (dL) rfl rfl (by first | exact wk_refls _ | (repeat constructor)) ?_
 simp (maxSteps := 2000000) only [go_sem, reduceIte, Nat.reduceEqDiff, Nat.reduceAdd, Nat.reduceLeDiff, GZ, csC, List.isEmpty_cons, th, Fl]
 refine ⟨AE (by kernel_rfl), by decide, ?_⟩
 refine goE_loop (bad := [1, 7, 8, 10003]) (kp := Fm) (fun i : Nat => { slots := [(9, .c (.ptr 3 0)), (10, .c (.ptr 4 0)), (11, .c (.ptr 5 0)), (12, .c (.ptr 6 0)), (13, .c (.ms 7 0 3 3)), (61, I 3), (62, I i)], heap := [.cells (csC c), .gone, .gone, .cells (AH 3 (B2 (pL c) (upL l))), .cells (AH 3 (B2 (pH c) (upL l))), .cells (AH 3 (B2 (pH c) (dnL l))), .cells (AH 3 (B2 (pL c) (dnL l))), .cells (Mk (Dg (fun k => FV c l k l.length) i) (Dg (fun k => FW c l k l.length) i))], marks := [] }) (fun i => i ≤ 3) (fun i => 3 - i) 0 mo (by kernel_rfl) ?_ (Nat.zero_le _) ?_
 ·refine ent_weaken [] (by rw [Iz, Iz]; rfl) rfl (Nat.zero_le _) (by simp [AB.low, Ba, Tq, csC, C.lowL, C.low]) rfl ?_
  simp (maxSteps := 2000000) only [go_sem, reduceIte, Nat.reduceEqDiff, Nat.reduceAdd, Nat.reduceLT, GZ, csC]
  all_goals first | exact .refl _ | exact ⟨.refl _, .refl _⟩ | exact ⟨.refl _, .refl _, .refl _⟩ | exact ⟨.refl _, _, rfl⟩ | exact ⟨_, rfl⟩ | exact ⟨.refl _, [], by simp⟩ | exact ⟨[], by simp⟩
 rintro i hi
 simp (maxSteps := 2000000) only [go_sem, reduceIte, Nat.reduceEqDiff, Nat.reduceAdd, Nat.reduceBEq, GZ, csC]
 by_cases hlt : i < 3
 ·have hlt2 : (i : Int) < 3 := by omega
  have m1 : 3 - (i + 1) < 3 - i := by omega
  have g1 := CM (B2 (pL c) (upL l)) hlt
  have g2 := CM (B2 (pH c) (upL l)) hlt
  have g3 := CM (B2 (pH c) (dnL l)) hlt
  have g4 := CM (B2 (pL c) (dnL l)) hlt
  have b1 := RR hc hl hlt (Nat.le_refl l.length)
  have b2 := RS hc hl hlt (Nat.le_refl l.length)
  have r1 : decide ((i : Int) < ((3 : Nat) : Int)) = true := by simp; omega
  have r2 : decide (i ≤ 2) = true := by simp; omega
  have r3 : decide (i + 1 ≤ 3) = true := by simp; omega
  have r4 : decide (i * 2 + 2 ≤ 6) = true := by simp; omega
  have r5 : decide (i * 2 ≤ 4) = true := by simp; omega
  have w3 : wr .i64 ((i : Int) + 1) = ((i + 1 : Nat) : Int) := by rw [Cl] <;> omega
  have w1 : wr .i64 (B2 (pL c) (upL l) i + B2 (pH c) (dnL l) i) = FV c l i l.length := by rw [aOW hc]; exact KX (by omega)
  have w2 : wr .i64 (B2 (pH c) (upL l) i + B2 (pL c) (dnL l) i) = FW c l i l.length := by rw [aOX hc]; exact KX (by omega)
  clear b1 b2
  simp (maxSteps := 2000000) only [go_sem, reduceIte, Nat.reduceEqDiff, Nat.reduceAdd, Nat.reduceLeDiff, Nat.reduceBEq, GZ, hlt2, g1, g2, g3, g4, nn, r1, r2, r3, r4, r5, w1, w2, w3, BI, aEv, Nat.mul_one, Nat.zero_add, aEw, aEx]
  refine ⟨i + 1, hlt, m1, ?_⟩
  refine ent_weaken [] ?_ rfl (Nat.zero_le _) (by simp [AB.low, Ba, Tq, csC, C.lowL, C.low]) rfl ?_
  ·have q1 : upd (Dg (fun k => FV c l k l.length) i) i (FV c l i l.length) = Dg (fun k => FV c l k l.length) (i + 1) := HM rfl
   have q2 : upd (Dg (fun k => FW c l k l.length) i) i (FW c l i l.length) = Dg (fun k => FW c l k l.length) (i + 1) := HM rfl
   simp only [q1, q2, List.append_nil, csC]
  simp (maxSteps := 2000000) only [go_sem, reduceIte, Nat.reduceEqDiff, Nat.reduceAdd, Nat.reduceLT, GZ, csC]
  all_goals first | exact .refl _ | exact ⟨.refl _, .refl _⟩ | exact ⟨.refl _, .refl _, .refl _⟩ | exact ⟨.refl _, _, rfl⟩ | exact ⟨_, rfl⟩ | exact ⟨.refl _, [], by simp⟩ | exact ⟨[], by simp⟩
 ·have hlt2 : ¬ (i : Int) < 3 := by omega
  have e : i = 3 := by omega
  subst e
  simp (maxSteps := 2000000) only [go_sem, reduceIte, Nat.reduceEqDiff, Nat.reduceAdd, Nat.reduceBEq, Nat.reduceSub, GZ, hlt2]
  refine ⟨7, Mk (Dg (fun k => FV c l k l.length) 3) (Dg (fun k => FW c l k l.length) 3), Bo 6 (Iy (Dg (fun k => FV c l k l.length) 3) (Dg (fun k => FW c l k l.length) 3)), _, rfl, Iu _, .v (.c (.ms 0 2 3 3 (by rw [BV]; omega) (Nat.le_refl _) (by unfold lim; omega))), ?_⟩
  rw [List.drop_zero, Uj]
  exact .refl _
end Go.Proofs.YtfgdbeijjbijnaaGreatDoor.Me
set_option linter.unusedSimpArgs false
set_option linter.unusedVariables false
set_option maxRecDepth 100000
namespace Go.Proofs.YtfgdbeijjbijnaaGreatDoor.Me
open Go Go.Abs Go.Proofs
def Ml : List (Nat × List Nat) := [(0, [2, 3, 4]), (1, [2, 4, 8, 9]), (2, [2, 4, 8, 9, 20]), (3, [6, 7]), (4, [2, 4, 8, 10]), (5, [2, 4, 8, 10, 26]), (6, [6, 7]), (7, [11]), (8, [6, 7])]
theorem HN : lookK Ml 0 = some [2, 3, 4] ∧ lookK Ml 1 = some [2, 4, 8, 9] ∧ lookK Ml 2 = some [2, 4, 8, 9, 20] ∧ lookK Ml 3 = some [6, 7] ∧ lookK Ml 4 = some [2, 4, 8, 10] ∧ lookK Ml 5 = some [2, 4, 8, 10, 26] ∧ lookK Ml 6 = some [6, 7] ∧ lookK Ml 7 = some [11] ∧ lookK Ml 8 = some [6, 7] := ⟨rfl, rfl, rfl, rfl, rfl, rfl, rfl, rfl, rfl⟩
def Uk : List (Nat × List Nat) := [(0, [1, 2]), (1, [1, 6, 7]), (2, [1, 6, 7, 16]), (3, [4, 5]), (4, [4, 5])]
theorem HO : lookK Uk 0 = some [1, 2] ∧ lookK Uk 1 = some [1, 6, 7] ∧ lookK Uk 2 = some [1, 6, 7, 16] ∧ lookK Uk 3 = some [4, 5] ∧ lookK Uk 4 = some [4, 5] := ⟨rfl, rfl, rfl, rfl, rfl⟩
theorem chip_spec {c : Cs} {l : List Int} (hc : OkC c) (h : AK c l = 0) : EU l ∧ l.length = c.lamp.length := by
 obtain ⟨h1, h2⟩ := (GV c l).1 h
 exact ⟨⟨by have := hc.n8; omega, fun x hx => by have := h2 x hx; omega⟩, h1⟩
theorem MU {c : Cs} {a b : List Int} (hc : OkC c) (ha : AK c a = 0) (hb : AK c b = 0) : EU (lessL a b) ∧ (lessL a b).length = c.lamp.length := by
 obtain ⟨h1, h2⟩ := (GV c a).1 ha
 obtain ⟨h3, h4⟩ := (GV c b).1 hb
 refine ⟨⟨by rw [lessL_len]; have := hc.n8; omega, fun x hx => ?_⟩, by rw [lessL_len, h1]⟩
 simp only [lessL, List.mem_map, List.mem_range] at hx
 obtain ⟨k, hk, rfl⟩ := hx
 have := h2 _ (List.mem_of_getElem? (ET hk))
 have := h4 _ (List.mem_of_getElem? (ET (show k < b.length by omega)))
 omega
def chip1 (c : Cs) (a : List Int) : Int := if okCase c = 0 then AK c a else okCase c
theorem aE7 (c : Cs) (a : List Int) : KU c [a] = chip1 c a := by
 unfold KU chip1 DT DT
 split
 ·split
  ·rename_i h; exact h.symm
  ·rfl
 ·rfl
theorem aE8 (c : Cs) (a b : List Int) : KU c [a, b] = okChips c a b := by
 unfold KU okChips DT DT DT
 split
 ·split
  ·split
   ·rename_i h; exact h.symm
   ·rfl
  ·rfl
 ·rfl
theorem chip1_iff (c : Cs) (a : List Int) : chip1 c a = 0 ↔ OkC c ∧ AK c a = 0 := by
 unfold chip1
 constructor
 ·intro h
  by_cases h1 : okCase c = 0
  ·rw [if_pos h1] at h; exact ⟨(Fg c).1 h1, h⟩
  ·rw [if_neg h1] at h; exact absurd h h1
 ·rintro ⟨h1, h2⟩; rw [if_pos ((Fg c).2 h1), h2]
theorem okChips_iff (c : Cs) (a b : List Int) : okChips c a b = 0 ↔ OkC c ∧ AK c a = 0 ∧ AK c b = 0 := by
 unfold okChips
 constructor
 ·intro h
  by_cases h1 : okCase c = 0
  ·rw [if_pos h1] at h
   by_cases h2 : AK c a = 0
   ·rw [if_pos h2] at h; exact ⟨(Fg c).1 h1, h2, h⟩
   ·rw [if_neg h2] at h; exact absurd h h2
  ·rw [if_neg h1] at h; exact absurd h h1
 ·rintro ⟨h1, h2, h3⟩; rw [if_pos ((Fg c).2 h1), if_pos h2, h3]
def PN (c : Cs) (x : Tr) (l : List Int) : Int := if chip1 c l = 0 then FU c x else chip1 c l
def aEA (c : Cs) (x : Tr) (l : List Int) : List Int := if PN c x l = 0 then seeL (pX x) l else []
def RT (c : Cs) (x : Tr) (l : List Int) : V := .tup [ints (aEA c x l), I (PN c x l)]
theorem aCe {c : Cs} {x : Tr} {l : List Int} (h : ¬ chip1 c l = 0) : RT c x l = .tup [ints [], I (chip1 c l)] := by
 have e : PN c x l = chip1 c l := by simp only [PN, if_neg h]
 simp only [RT, aEA, e, if_neg h]
theorem aEB {c : Cs} {x : Tr} {l : List Int} (h : chip1 c l = 0) (h2 : ¬ FU c x = 0) : RT c x l = .tup [ints [], I (FU c x)] := by
 have e : PN c x l = FU c x := by simp only [PN, if_pos h]
 simp only [RT, aEA, e, if_neg h2]
theorem numV_ok {c : Cs} {x : Tr} {l : List Int} (h : chip1 c l = 0) (h2 : FU c x = 0) : RT c x l = .tup [ints (seeL (pX x) l), I 0] := by
 have e : PN c x l = 0 := by simp only [PN, if_pos h, h2]
 simp only [RT, aEA, e, if_true]
set_option maxHeartbeats 2000000 in
theorem numbers16 (c : Cs) (x : Tr) (l : List Int) : AF Tryz.prog 12 [csV c, trV x, ints l] (RT c x l) := by
 refine pure_wkE (bad := []) (kp := Ml) (X := tx) (nt := 34) (rs := [.tmp 6, .tmp 7]) Tryz.func12 rfl rfl rfl rfl mo (by kernel_rfl) rfl rfl (fun hf => ?_)
 simp (maxSteps := 2000000) only [go_sem, reduceIte, Nat.reduceEqDiff, Nat.reduceAdd, Nat.reduceLT, Nat.reduceLeDiff, Nat.reduceBEq, Nat.reduceMul, HN, HO, csV, csC, trV, trC, ints]
 refine Ac (Tm c [l]) rfl rfl (by first | exact wk_refls _ | (repeat constructor)) ?_
 simp (maxSteps := 2000000) only [go_sem, reduceIte, Nat.reduceEqDiff, Nat.reduceAdd, HN, HO, csV, csC, aE7]
 by_cases h : chip1 c l = 0
 case neg =>
  have e := aCe (x := x) h
  simp (maxSteps := 2000000) only [go_sem, reduceIte, Nat.reduceEqDiff, Nat.reduceAdd, HN, HO, h, e, ints, List.map_nil]
 obtain ⟨hc, hl⟩ := (chip1_iff c l).1 h
 obtain ⟨hs, hn⟩ := chip_spec hc hl
 simp (maxSteps := 2000000) only [go_sem, reduceIte, Nat.reduceEqDiff, Nat.reduceAdd, HN, HO, h, trC]
 refine Ac (aEq c x hc) rfl rfl (by first | exact wk_refls _ | (repeat constructor)) ?_
 by_cases h2 : FU c x = 0
 case neg =>
  have e := aEB h h2
  simp (maxSteps := 2000000) only [go_sem, reduceIte, Nat.reduceEqDiff, Nat.reduceAdd, HN, HO, h2, e, ints, List.map_nil]
 have hT := (okTr_iff c x).1 h2
 have hx := (aGL c c x l (pX x) hs (OkT.okX hc hT (by omega)) (fun i b hi hb H h1 hH => aOT x hc hT i b hi (by omega) H h1 hH)).frame rfl rfl rfl [.cells (csC c)]
 simp (maxSteps := 2000000) only [go_sem, reduceIte, Nat.reduceEqDiff, Nat.reduceAdd, HN, HO, h2, csC]
 simp (maxSteps := 2000000) only [go_sem, HN, HO, csC, List.cons_append, List.nil_append] at hx
 refine Ar (hx) rfl rfl (by first | exact wk_refls _ | (repeat constructor)) ?_
 simp (maxSteps := 2000000) only [go_sem, reduceIte, Nat.reduceEqDiff, Nat.reduceAdd, HN, HO, th, Fl]
 refine Ar (aEs (B2 (pX x) l) 3 _ rfl rfl) rfl rfl (by first | exact wk_refls _ | (repeat constructor)) ?_
 have e := numV_ok h h2
 simp (maxSteps := 2000000) only [go_sem, reduceIte, Nat.reduceEqDiff, HN, HO, e, seeL]
def spaV (c : Cs) (l : List Int) : V := .tup [rgs (if chip1 c l = 0 then spansL c l else []), I (chip1 c l)]
set_option maxHeartbeats 2000000 in
theorem spans18 (c : Cs) (l : List Int) : AF Tryz.prog 11 [csV c, ints l] (spaV c l) := by
 refine pure_wkE (bad := []) (kp := Uk) (X := tx) (nt := 21) (rs := [.tmp 4, .tmp 5]) Tryz.func11 rfl rfl rfl rfl mo (by kernel_rfl) rfl rfl (fun hf => ?_)
 simp (maxSteps := 2000000) only [go_sem, reduceIte, Nat.reduceEqDiff, Nat.reduceAdd, Nat.reduceLT, Nat.reduceLeDiff, Nat.reduceBEq, Nat.reduceMul, HN, HO, csV, csC, ints]
 refine Ac (Tm c [l]) rfl rfl (by first | exact wk_refls _ | (repeat constructor)) ?_
 simp (maxSteps := 2000000) only [go_sem, reduceIte, Nat.reduceEqDiff, Nat.reduceAdd, HN, HO, csV, csC, aE7]
 by_cases h : chip1 c l = 0
 case neg => simp (maxSteps := 2000000) only [go_sem, reduceIte, Nat.reduceEqDiff, Nat.reduceAdd, HN, HO, h, spaV, if_false, rgs, List.map_nil]
 obtain ⟨hc, hl⟩ := (chip1_iff c l).1 h
 obtain ⟨hs, hn⟩ := chip_spec hc hl
 simp (maxSteps := 2000000) only [go_sem, reduceIte, Nat.reduceEqDiff, Nat.reduceAdd, HN, HO, h, csC]
 refine Ac (aEz c l hc hs hn) rfl rfl (by first | exact wk_refls _ | (repeat constructor)) ?_
 simp (maxSteps := 2000000) only [go_sem, reduceIte, Nat.reduceEqDiff, HN, HO, h, spaV, if_true, rgs]
def zRg (r : Rg) : Bool := decide (r.lo = 0) && decide (r.hi = 0)
end Go.Proofs.YtfgdbeijjbijnaaGreatDoor.Me
set_option linter.unusedSimpArgs false
set_option linter.unusedVariables false
set_option maxRecDepth 100000
namespace Go.Proofs.YtfgdbeijjbijnaaGreatDoor.Me
open Go Go.Abs Go.Proofs
def Fw : List (Nat × List Nat) := [(0, [0, 2, 7, 8, 9]), (1, [0, 2, 7, 8, 9, 10]), (2, [0, 2, 4, 5, 7, 8, 9]), (3, [0, 2, 4, 5, 7, 8, 9, 14]), (4, [0, 2, 4, 5, 7, 8, 9, 14, 15]), (5, [0, 2, 4, 5, 6, 7, 8, 9, 14]), (6, [0, 2, 4, 5, 7, 8, 9, 14, 36]), (7, [0, 2, 4, 5, 7, 8, 9, 14]), (8, [0, 2, 7, 8, 9])]
theorem Bl : lookK Fw 0 = some [0, 2, 7, 8, 9] ∧ lookK Fw 1 = some [0, 2, 7, 8, 9, 10] ∧ lookK Fw 2 = some [0, 2, 4, 5, 7, 8, 9] ∧ lookK Fw 3 = some [0, 2, 4, 5, 7, 8, 9, 14] ∧ lookK Fw 4 = some [0, 2, 4, 5, 7, 8, 9, 14, 15] ∧ lookK Fw 5 = some [0, 2, 4, 5, 6, 7, 8, 9, 14] ∧ lookK Fw 6 = some [0, 2, 4, 5, 7, 8, 9, 14, 36] ∧ lookK Fw 7 = some [0, 2, 4, 5, 7, 8, 9, 14] ∧ lookK Fw 8 = some [0, 2, 7, 8, 9] := ⟨rfl, rfl, rfl, rfl, rfl, rfl, rfl, rfl, rfl⟩
def aCf : List (Nat × List Nat) := [(0, [2, 3]), (1, [4])]
theorem Bm : lookK aCf 0 = some [2, 3] ∧ lookK aCf 1 = some [4] := ⟨rfl, rfl⟩
def JH : List (Nat × List Nat) := [(0, [1, 2, 4, 8, 9, 23, 24, 25, 26, 27]), (1, [1, 2, 4, 6, 8, 9, 23, 24, 25, 26, 27]), (2, [1, 2, 4, 6, 8, 9, 17, 23, 24, 25, 26, 27]), (3, [4, 5]), (4, [1, 2, 4, 6, 7, 8, 9, 23, 24, 25, 26, 27]), (5, [4, 6, 7, 8, 9, 22, 23, 24, 25, 26, 27]), (6, [4, 6, 7, 8, 24]), (7, [4, 6, 7, 8, 9]), (8, [4, 6, 7]), (9, [4, 5])]
theorem Ch : lookK JH 0 = some [1, 2, 4, 8, 9, 23, 24, 25, 26, 27] ∧ lookK JH 1 = some [1, 2, 4, 6, 8, 9, 23, 24, 25, 26, 27] ∧ lookK JH 2 = some [1, 2, 4, 6, 8, 9, 17, 23, 24, 25, 26, 27] ∧ lookK JH 3 = some [4, 5] ∧ lookK JH 4 = some [1, 2, 4, 6, 7, 8, 9, 23, 24, 25, 26, 27] ∧ lookK JH 5 = some [4, 6, 7, 8, 9, 22, 23, 24, 25, 26, 27] ∧ lookK JH 6 = some [4, 6, 7, 8, 24] ∧ lookK JH 7 = some [4, 6, 7, 8, 9] ∧ lookK JH 8 = some [4, 6, 7] ∧ lookK JH 9 = some [4, 5] := ⟨rfl, rfl, rfl, rfl, rfl, rfl, rfl, rfl, rfl, rfl⟩
def Oh : List (Nat × List Nat) := [(0, [1, 2, 3]), (1, [1, 2, 7, 8]), (2, [1, 2, 7, 8, 20]), (3, [6]), (4, [10]), (5, [30]), (6, [6]), (7, [6])]
theorem Ci : lookK Oh 0 = some [1, 2, 3] ∧ lookK Oh 1 = some [1, 2, 7, 8] ∧ lookK Oh 2 = some [1, 2, 7, 8, 20] ∧ lookK Oh 3 = some [6] ∧ lookK Oh 4 = some [10] ∧ lookK Oh 5 = some [30] ∧ lookK Oh 6 = some [6] ∧ lookK Oh 7 = some [6] := ⟨rfl, rfl, rfl, rfl, rfl, rfl, rfl, rfl⟩
def DC (f : Nat → Bool) : Nat → Option Nat
 | 0 => none
 | n + 1 => match DC f n with
  | some k => some k
  | none => if f n then some n else none
theorem Ex {f : Nat → Bool} : ∀ {n : Nat}, (∀ j, j < n → f j = false) → DC f n = none
 | 0, _ => rfl
 | n + 1, h => by rw [DC, Ex (fun j hj => h j (by omega)), h n (by omega)]; rfl
theorem I1 {f : Nat → Bool} {k : Nat} (h : ∀ j, j < k → f j = false) (hk : f k = true) : ∀ {n : Nat}, k < n → DC f n = some k
 | 0, hn => by omega
 | n + 1, hn => by
  by_cases e : k = n
  ·subst e; rw [DC, Ex h, hk]; rfl
  ·rw [DC, I1 h hk (by omega)]
theorem I2 {f : Nat → Bool} : ∀ {n k : Nat}, DC f n = some k → k < n ∧ f k = true
 | n + 1, k, h => by
  rw [DC] at h
  cases hf : DC f n with
  | some k' =>
   rw [hf] at h; cases h
   have := I2 hf; exact ⟨by omega, this.2⟩
  | none =>
   rw [hf] at h
   by_cases hn : f n = true
   ·rw [if_pos hn] at h; cases h; exact ⟨by omega, hn⟩
   ·rw [if_neg hn] at h; cases h
theorem KZ {f : Nat → Bool} : ∀ {n : Nat}, DC f n = none → ∀ j, j < n → f j = false
 | n + 1, h, j, hj => by
  rw [DC] at h
  cases hf : DC f n with
  | some k' => rw [hf] at h; cases h
  | none =>
   rw [hf] at h
   by_cases hn : f n = true
   ·rw [if_pos hn] at h; cases h
   ·by_cases e : j = n
    ·subst e; simpa using hn
    ·exact KZ hf j (by omega)
def opn (c : Cs) (l : List Int) (t : Nat) : Bool := decide (¬ gI l (t / 3) = 0) && decide (¬ pL c (t % 3) (t / 3) = pH c (t % 3) (t / 3))
def fo (c : Cs) (l : List Int) : Option Nat := DC (opn c l) (3 * l.length)
theorem Oi (c : Cs) (l : List Int) {i b : Nat} (hi : i < 3) : opn c l (3 * b + i) = (decide (¬ gI l b = 0) && decide (¬ pL c i b = pH c i b)) := by
 have h1 : (3 * b + i) / 3 = b := by omega
 have h2 : (3 * b + i) % 3 = i := by omega
 rw [opn, h1, h2]
def plC (i b : Int) : List C := [.d (.int .i64 i), .d (.int .i64 b)]
def slP : List (Nat × V) := [(4, .c (.ptr 1 0)), (6, .c (.ptr 2 0)), (7, .c (.ptr 3 0)), (22, .c (.fn (.func 226) [.ptr 5 0, .ptr 4 0]))]
structure RP where
 A : Code
 Bd : Code
def HP (r : RP) (c : Cs) (l : List Int) (i b : Int) (sta : LoopState) (pe : Option Code) : List AB :=
  [.cells (csC c), .cells (plC 0 0), .cells (plC (-1) (-1)), .cells (plC i b), .cells (csC c), .cells [.d (.sl (l.map iD))], .df,
   .lp { state := sta, pend := pe, slots := slP, nt := 32, ps := #[23, 24], assign := r.A, body := r.Bd, D := 6 }]
def HE (r : RP) (c : Cs) (l : List Int) : List AB := match fo c l with
 | none => HP r c l (-1) (-1) .ready none
 | some t => HP r c l ((t % 3 : Nat) : Int) ((t / 3 : Nat) : Int) .done (some (.exit 0))
set_option maxHeartbeats 4000000 in
theorem aGM (r : RP) (c : Cs) (l : List Int) (hc : OkC c) (hl : EU l) (hn : l.length = c.lamp.length)
  (hY : ∀ i b : Nat, i < 3 → b < l.length → YCs Tryz.prog 7 (HP r c l (-1) (-1) .ready none) [I i, I b] (one (B false) (HP r c l i b .done (some (.exit 0))))) :
  Ad Tryz.prog 226 [.c (.yd 7), .c (.ptr 5 0), .c (.ptr 4 0)] (HP r c l (-1) (-1) .ready none) (fun _ H2 => H2 = HE r c l) := by
 refine acall_fitE (bad := [20006]) (kp := Fw) (X := tx) (nt := 39) (rs := []) Tryz.func226 rfl rfl rfl rfl mo (by kernel_rfl) (fun hf => ?_)
 have hn8 := hl.n8
 simp (maxSteps := 2000000) only [go_sem, reduceIte, Nat.reduceEqDiff, Nat.reduceAdd, Nat.reduceBEq, Int.reduceNeg, Bl, Bm, Ch, Ci, HP, csC]
 refine goE_loop (bad := [20006]) (kp := Fw) (fun b : Nat => { slots := [(0, .c (.yd 7)), (2, .c (.ptr 4 0)), (7, ints l), (8, I l.length), (9, I b)], heap := HP r c l (-1) (-1) .ready none, marks := [] }) (fun b => b ≤ l.length ∧ ∀ j, j < 3 * b → opn c l j = false) (fun b => l.length - b) 0 mo (by kernel_rfl) ?_ ⟨Nat.zero_le _, by intro j h; omega⟩ ?_
 ·refine ent_weaken [] rfl rfl (show 8 ≤ 8 by decide) rfl rfl ?_
  simp (maxSteps := 2000000) only [go_sem, reduceIte, Nat.reduceEqDiff, Nat.reduceAdd, Nat.reduceLT, Int.reduceNeg, Bl, Bm, Ch, Ci, ints, HP]
  all_goals first | exact .refl _ | exact ⟨.refl _, .refl _⟩ | exact ⟨.refl _, .refl _, .refl _⟩ | exact ⟨.refl _, _, rfl⟩ | exact ⟨_, rfl⟩ | exact ⟨.refl _, [], by simp⟩ | exact ⟨[], by simp⟩
 rintro b ⟨hb, hall⟩
 simp (maxSteps := 2000000) only [go_sem, reduceIte, Nat.reduceEqDiff, Nat.reduceAdd, Nat.reduceBEq, Int.reduceNeg, Bl, Bm, Ch, Ci, HP, ints, csC]
 by_cases hlt : b < l.length
 ·have hlt' : (b : Int) < l.length := by omega
  have g0 := ET hlt
  have m0 : l.length - (b + 1) < l.length - b := by omega
  simp (maxSteps := 2000000) only [go_sem, reduceIte, Nat.reduceEqDiff, Nat.reduceAdd, Nat.reduceBEq, Int.reduceNeg, Bl, Bm, Ch, Ci, hlt', g0, nn, iD]
  refine goE_loop (bad := [20006]) (kp := Fw) (fun i : Nat => { slots := [(0, .c (.yd 7)), (2, .c (.ptr 4 0)), (4, I b), (5, I (gI l b)), (7, ints l), (8, I l.length), (9, I b), (14, I i)], heap := HP r c l (-1) (-1) .ready none, marks := [] }) (fun i => i ≤ 3 ∧ ∀ j, j < 3 * b + i → opn c l j = false) (fun i => 3 - i) 0 mo (by kernel_rfl) ?_ ⟨Nat.zero_le _, fun j hj => hall j (by omega)⟩ ?_
  ·refine ent_weaken [] rfl rfl (show 8 ≤ 8 by decide) rfl rfl ?_
   simp (maxSteps := 2000000) only [go_sem, reduceIte, Nat.reduceEqDiff, Nat.reduceAdd, Nat.reduceLT, Int.reduceNeg, Bl, Bm, Ch, Ci, ints, HP, csC]
   all_goals first | exact .refl _ | exact ⟨.refl _, .refl _⟩ | exact ⟨.refl _, .refl _, .refl _⟩ | exact ⟨.refl _, _, rfl⟩ | exact ⟨_, rfl⟩ | exact ⟨.refl _, [], by simp⟩ | exact ⟨[], by simp⟩
  rintro i ⟨hi, hall2⟩
  simp (maxSteps := 2000000) only [go_sem, reduceIte, Nat.reduceEqDiff, Nat.reduceAdd, Nat.reduceBEq, Int.reduceNeg, Bl, Bm, Ch, Ci, HP, csC]
  by_cases hlt2 : i < 3
  ·have hlt2' : (i : Int) < 3 := by omega
   have m1 : 3 - (i + 1) < 3 - i := by omega
   have w3 : wr .i64 ((i : Int) + 1) = ((i + 1 : Nat) : Int) := by rw [Cl] <;> omega
   have next : opn c l (3 * b + i) = false → ∀ j, j < 3 * b + (i + 1) → opn c l j = false := fun h j hj => by
    by_cases e : j = 3 * b + i
    ·rw [e]; exact h
    ·exact hall2 j (by omega)
   by_cases q1 : gI l b = 0
   ·have n1 := next (by rw [Oi c l hlt2]; simp [q1])
    simp (maxSteps := 2000000) only [go_sem, reduceIte, Nat.reduceEqDiff, Nat.reduceAdd, Nat.reduceBEq, Int.reduceNeg, Bl, Bm, Ch, Ci, hlt2', q1, w3]
    refine ⟨i + 1, ⟨hlt2, n1⟩, m1, ?_⟩
    refine ent_weaken [] rfl rfl (show 8 ≤ 8 by decide) rfl rfl ?_
    simp (maxSteps := 2000000) only [go_sem, reduceIte, Nat.reduceEqDiff, Nat.reduceAdd, Nat.reduceLT, Int.reduceNeg, Bl, Bm, Ch, Ci, ints, HP, csC, q1]
    all_goals first | exact .refl _ | exact ⟨.refl _, .refl _⟩ | exact ⟨.refl _, .refl _, .refl _⟩ | exact ⟨.refl _, _, rfl⟩ | exact ⟨_, rfl⟩ | exact ⟨.refl _, [], by simp⟩ | exact ⟨[], by simp⟩
   by_cases q2 : pL c i b = pH c i b
   ·have n1 := next (by rw [Oi c l hlt2]; simp [q2])
    simp (maxSteps := 2000000) only [go_sem, reduceIte, Nat.reduceEqDiff, Nat.reduceAdd, Nat.reduceBEq, Int.reduceNeg, Bl, Bm, Ch, Ci, hlt2', q1, w3]
    refine Af (PJ c hc i b hlt2 (by omega)) rfl rfl (by first | exact wk_refls _ | (repeat constructor)) (by kernel_rfl) ?_
    simp (maxSteps := 2000000) only [go_sem, reduceIte, Nat.reduceEqDiff, Nat.reduceAdd, Int.reduceNeg, Bl, Bm, Ch, Ci, csC]
    refine Af (Og c hc i b hlt2 (by omega)) rfl rfl (by first | exact wk_refls _ | (repeat constructor)) (by kernel_rfl) ?_
    simp (maxSteps := 2000000) only [go_sem, reduceIte, Nat.reduceEqDiff, Nat.reduceAdd, Nat.reduceBEq, Int.reduceNeg, Bl, Bm, Ch, Ci, q2, w3]
    refine ⟨i + 1, ⟨hlt2, n1⟩, m1, ?_⟩
    refine ent_weaken [] rfl rfl (show 8 ≤ 8 by decide) rfl rfl ?_
    simp (maxSteps := 2000000) only [go_sem, reduceIte, Nat.reduceEqDiff, Nat.reduceAdd, Nat.reduceLT, Int.reduceNeg, Bl, Bm, Ch, Ci, ints, HP, csC]
    all_goals first | exact .refl _ | exact ⟨.refl _, .refl _⟩ | exact ⟨.refl _, .refl _, .refl _⟩ | exact ⟨.refl _, _, rfl⟩ | exact ⟨_, rfl⟩ | exact ⟨.refl _, [], by simp⟩ | exact ⟨[], by simp⟩
   ·have e : fo c l = some (3 * b + i) := I1 hall2 (by rw [Oi c l hlt2]; simp [q1, q2]) (by omega)
    have hy := hY i b hlt2 hlt
    simp (maxSteps := 2000000) only [go_sem, Int.reduceNeg, Bl, Bm, Ch, Ci, HP, csC] at hy
    have e1 : (3 * b + i) / 3 = b := by omega
    have e2 : (3 * b + i) % 3 = i := by omega
    simp (maxSteps := 2000000) only [go_sem, reduceIte, Nat.reduceEqDiff, Nat.reduceAdd, Nat.reduceBEq, Int.reduceNeg, Bl, Bm, Ch, Ci, hlt2', q1, w3]
    refine Af (PJ c hc i b hlt2 (by omega)) rfl rfl (by first | exact wk_refls _ | (repeat constructor)) (by kernel_rfl) ?_
    simp (maxSteps := 2000000) only [go_sem, reduceIte, Nat.reduceEqDiff, Nat.reduceAdd, Int.reduceNeg, Bl, Bm, Ch, Ci, csC]
    refine Af (Og c hc i b hlt2 (by omega)) rfl rfl (by first | exact wk_refls _ | (repeat constructor)) (by kernel_rfl) ?_
    simp (maxSteps := 2000000) only [go_sem, reduceIte, Nat.reduceEqDiff, Nat.reduceAdd, Int.reduceNeg, Bl, Bm, Ch, Ci, q2, w3]
    refine VD hy rfl rfl (by kernel_rfl) (by kernel_rfl) ?_
    simp (maxSteps := 2000000) only [go_sem, reduceIte, Nat.reduceEqDiff, Nat.reduceAdd, Int.reduceNeg, Bl, Bm, Ch, Ci, HE, e, e1, e2, HP, csC]
  ·have hlt2' : ¬ (i : Int) < 3 := by omega
   have e : i = 3 := by omega
   subst e
   simp (maxSteps := 2000000) only [go_sem, reduceIte, Nat.reduceEqDiff, Nat.reduceAdd, Nat.reduceBEq, Nat.reduceSub, Int.reduceNeg, Bl, Bm, Ch, Ci, hlt2', Az hlt (show l.length ≤ 140737488355328 by omega)]
   refine ⟨b + 1, ⟨hlt, fun j hj => hall2 j (by omega)⟩, m0, ?_⟩
   refine ent_weaken [] rfl rfl (show 8 ≤ 8 by decide) rfl rfl ?_
   simp (maxSteps := 2000000) only [go_sem, reduceIte, Nat.reduceEqDiff, Nat.reduceAdd, Nat.reduceLT, Int.reduceNeg, Bl, Bm, Ch, Ci, ints, HP, csC]
   all_goals first | exact .refl _ | exact ⟨.refl _, .refl _⟩ | exact ⟨.refl _, .refl _, .refl _⟩ | exact ⟨.refl _, _, rfl⟩ | exact ⟨_, rfl⟩ | exact ⟨.refl _, [], by simp⟩ | exact ⟨[], by simp⟩
 ·have hlt' : ¬ (b : Int) < l.length := by omega
  have e : fo c l = none := Ex (fun j hj => hall j (by omega))
  simp (maxSteps := 2000000) only [go_sem, reduceIte, Int.reduceNeg, Bl, Bm, Ch, Ci, hlt', HE, e, HP, csC]
def HP4 (c : Cs) : List AB := [.cells (csC c), .cells (plC 0 0), .cells (plC (-1) (-1)), .cells (plC (-1) (-1))]
set_option maxHeartbeats 1000000 in
theorem aGN (c : Cs) (l : List Int) : Ad Tryz.prog 140 [csV c, ints l] (HP4 c) (one (.c (.fn (.func 226) [.ptr 5 0, .ptr 4 0])) (HP4 c ++ [.cells (csC c), .cells [.d (.sl (l.map iD))]])) := by
 refine acall_fitE (bad := []) (kp := aCf) (X := tx) (nt := 6) (rs := [.tmp 4]) Tryz.func140 rfl rfl rfl rfl mo (by kernel_rfl) (fun hf => ?_)
 simp (maxSteps := 2000000) only [go_sem, reduceIte, Nat.reduceEqDiff, Nat.reduceAdd, Int.reduceNeg, Bl, Bm, Ch, Ci, HP4, csV, csC, ints, one]
 all_goals first | exact .refl _ | exact ⟨.refl _, .refl _⟩ | exact ⟨.refl _, .refl _, .refl _⟩ | exact ⟨.refl _, _, rfl⟩ | exact ⟨_, rfl⟩ | exact ⟨.refl _, [], by simp⟩ | exact ⟨[], by simp⟩
def PO (c : Cs) (l : List Int) : Bool := decide (B2 (pL c) l 0 = 0) && (decide (B2 (pL c) l 1 = 0) && decide (B2 (pL c) l 2 = 0))
def partB (c : Cs) (l : List Int) : Bool := !PO c l || (fo c l).isSome
def partP (c : Cs) (l : List Int) : Int × Int := if PO c l then (match fo c l with | none => (-1, -1) | some t => (((t % 3 : Nat) : Int), ((t / 3 : Nat) : Int))) else (-1, -1)
def K0 (c : Cs) (l : List Int) : V := .tup [.agg (plC (partP c l).1 (partP c l).2), B (partB c l)]
set_option maxHeartbeats 4000000 in
theorem aCg (c : Cs) (l : List Int) (hc : OkC c) (hl : EU l) (hn : l.length = c.lamp.length) : AF Tryz.prog 57 [csV c, ints l] (K0 c l) := by
 refine pure_wkE (bad := [9]) (kp := JH) (X := tx) (nt := 32) (rs := [.cell 4 138, .tmp 5]) Tryz.func57 rfl rfl rfl rfl mo (by kernel_rfl) rfl rfl (fun hf => ?_)
 have hs := aB4 c l 121 (pL c) hl (hc.okL _) (fun i b hi hb => PJ c hc i b hi (by omega))
 simp (maxSteps := 2000000) only [go_sem, reduceIte, Nat.reduceEqDiff, Nat.reduceAdd, Nat.reduceLeDiff, Nat.reduceBEq, Int.reduceNeg, Bl, Bm, Ch, Ci, csV, csC, ints, List.isEmpty_cons]
 refine Ac (hs) rfl rfl (by first | exact wk_refls _ | (repeat constructor)) ?_
 simp (maxSteps := 2000000) only [go_sem, reduceIte, Nat.reduceEqDiff, Nat.reduceAdd, Int.reduceNeg, Bl, Bm, Ch, Ci, th, Fl]
 have ez : (decide (B2 (pL c) l 0 = 0) && (decide (B2 (pL c) l 1 = 0) && decide (B2 (pL c) l 2 = 0))) = PO c l := rfl
 rw [ez]
 cases hz : PO c l with
 | false =>
  have e1 : K0 c l = .tup [.agg (plC (-1) (-1)), B true] := by simp only [K0, partB, partP, hz, Bool.not_false, Bool.true_or, Bool.false_eq_true, if_false]
  rw [e1]
  simp (maxSteps := 2000000) only [go_sem, reduceIte, Nat.reduceEqDiff, Nat.reduceAdd, Nat.reduceBEq, Int.reduceNeg, Bl, Bm, Ch, Ci, plC]
 | true =>
 have e1 : K0 c l = .tup [.agg (plC (match fo c l with | none => ((-1 : Int), (-1 : Int)) | some t => (((t % 3 : Nat) : Int), ((t / 3 : Nat) : Int))).1 (match fo c l with | none => ((-1 : Int), (-1 : Int)) | some t => (((t % 3 : Nat) : Int), ((t / 3 : Nat) : Int))).2), B (fo c l).isSome] := by simp only [K0, partB, partP, hz, Bool.not_true, Bool.false_or, if_true]
 simp (maxSteps := 2000000) only [go_sem, reduceIte, Nat.reduceEqDiff, Nat.reduceAdd, Nat.reduceBEq, Int.reduceNeg, Bl, Bm, Ch, Ci]
 have h85 := aGN c l
 simp (maxSteps := 2000000) only [go_sem, Int.reduceNeg, Bl, Bm, Ch, Ci, HP4, csV, csC, ints, plC] at h85
 refine Ar (h85) rfl rfl (by first | exact wk_refls _ | (repeat constructor)) ?_
 simp (maxSteps := 2000000) only [go_sem, reduceIte, Nat.reduceEqDiff, Int.reduceNeg, Bl, Bm, Ch, Ci, List.cons_append, List.nil_append]
 refine AWP.ent (s' := { slots := slP, heap := HP4 c ++ [.cells (csC c), .cells [.d (.sl (l.map iD))]], marks := [] }) ?_ ?_
 ·refine ent_weaken [] rfl rfl (Nat.zero_le _) rfl rfl ?_
  simp (maxSteps := 2000000) only [go_sem, reduceIte, Nat.reduceEqDiff, Nat.reduceAdd, Nat.reduceLT, Int.reduceNeg, Bl, Bm, Ch, Ci, slP, HP4, List.cons_append, List.nil_append]
  all_goals first | exact .refl _ | exact ⟨.refl _, .refl _⟩ | exact ⟨.refl _, .refl _, .refl _⟩ | exact ⟨.refl _, _, rfl⟩ | exact ⟨_, rfl⟩ | exact ⟨.refl _, [], by simp⟩ | exact ⟨[], by simp⟩
 refine KI (fun A Bd hA hB => ?_)
 refine EH (gf := 226) (caps := [.ptr 5 0, .ptr 4 0]) rfl rfl ?_
 refine Ad.mono (aGM ⟨A, Bd⟩ c l hc hl hn (fun i b hi hb => ?_)) ?_
 ·refine aEd (bad := [9]) (kp := JH) (X := tx) mo rfl hA hB rfl rfl (by kernel_rfl) (by kernel_rfl) (fun lp => ?_)
  simp (maxSteps := 2000000) only [go_sem, reduceIte, Nat.reduceEqDiff, Nat.reduceAdd, Nat.reduceLeDiff, Nat.reduceBEq, Int.reduceNeg, Bl, Bm, Ch, Ci, DW, HP, slP, csC, plC]
  refine ⟨_, rfl, ?_⟩
  simp (maxSteps := 2000000) only [go_sem, reduceIte, Nat.reduceEqDiff, Nat.reduceAdd, Nat.reduceBEq, Int.reduceNeg, Bl, Bm, Ch, Ci, DW, HP, slP, csC, plC]
  exact ⟨_, Ent.refl, _, rfl, rfl, rfl⟩
 ·rintro _ H2 rfl
  cases hfo : fo c l with
  | none =>
   rw [hfo] at e1
   rw [e1]
   have hH : HE ⟨A, Bd⟩ c l = HP ⟨A, Bd⟩ c l (-1) (-1) .ready none := by simp only [HE, hfo]
   rw [hH]
   refine ⟨fun h => (by cases h), ?_⟩
   simp (maxSteps := 2000000) only [go_sem, reduceIte, Nat.reduceEqDiff, Nat.reduceAdd, Nat.reduceLeDiff, Nat.reduceBEq, Int.reduceNeg, Bl, Bm, Ch, Ci, HP, slP, HP4, csC, plC, List.cons_append, List.nil_append]
   first | exact ⟨AE (by kernel_rfl), .refl _⟩ | exact AE (by kernel_rfl)
  | some t =>
   rw [hfo] at e1
   rw [e1]
   have hH : HE ⟨A, Bd⟩ c l = HP ⟨A, Bd⟩ c l ((t % 3 : Nat) : Int) ((t / 3 : Nat) : Int) .done (some (.exit 0)) := by simp only [HE, hfo]
   rw [hH]
   refine ⟨fun h => (by cases h), ?_⟩
   refine Hp ?_
   have n1 : ¬ (((t % 3 : Nat) : Int) = -1) := by omega
   simp (maxSteps := 2000000) only [go_sem, reduceIte, Nat.reduceEqDiff, Nat.reduceAdd, Nat.reduceLeDiff, Nat.reduceBEq, Int.reduceNeg, Bl, Bm, Ch, Ci, HP, slP, HP4, csC, plC, List.cons_append, List.nil_append, n1]
   first | exact ⟨AE (by kernel_rfl), .refl _⟩ | exact AE (by kernel_rfl)
def sureP (c : Cs) (a b : List Int) : Int := if okChips c a b = 0 then (if partB c (lessL a b) then 19 else 0) else okChips c a b
set_option maxHeartbeats 2000000 in
theorem surely27 (c : Cs) (a b : List Int) : AF Tryz.prog 17 [csV c, ints a, ints b] (I (sureP c a b)) := by
 refine pure_wkE (bad := [4]) (kp := Oh) (X := tx) (nt := 31) (rs := [.tmp 6]) Tryz.func17 rfl rfl rfl rfl mo (by kernel_rfl) rfl rfl (fun hf => ?_)
 simp (maxSteps := 2000000) only [go_sem, reduceIte, Nat.reduceEqDiff, Nat.reduceAdd, Nat.reduceLT, Nat.reduceLeDiff, Nat.reduceBEq, Nat.reduceMul, Bl, Bm, Ch, Ci, csV, csC, ints]
 refine Ac (Tm c [a, b]) rfl rfl (by first | exact wk_refls _ | (repeat constructor)) ?_
 simp (maxSteps := 2000000) only [go_sem, reduceIte, Nat.reduceEqDiff, Nat.reduceAdd, Bl, Bm, Ch, Ci, csV, csC, aE8]
 by_cases h : okChips c a b = 0
 case neg =>
  have e : sureP c a b = okChips c a b := by simp only [sureP, if_neg h]
  simp (maxSteps := 2000000) only [go_sem, reduceIte, Nat.reduceEqDiff, Nat.reduceAdd, Nat.reduceBEq, Bl, Bm, Ch, Ci, h, e]
 obtain ⟨hc, ha, hb⟩ := (okChips_iff c a b).1 h
 obtain ⟨hsa, hna⟩ := chip_spec hc ha
 obtain ⟨hsb, hnb⟩ := chip_spec hc hb
 obtain ⟨hs, hn⟩ := MU hc ha hb
 simp (maxSteps := 2000000) only [go_sem, reduceIte, Nat.reduceEqDiff, Nat.reduceAdd, Nat.reduceBEq, Bl, Bm, Ch, Ci, h, csC]
 refine de_pure (aCa a b (by omega) hsa hsb) rfl rfl (by first | exact wk_refls _ | (repeat constructor)) ?_
 simp (maxSteps := 2000000) only [go_sem, reduceIte, Nat.reduceEqDiff, Nat.reduceAdd, Bl, Bm, Ch, Ci, h, csC]
 refine de_pure (aCg c (lessL a b) hc hs hn) rfl rfl (by first | exact wk_refls _ | (repeat constructor)) ?_
 simp (maxSteps := 2000000) only [go_sem, reduceIte, Nat.reduceEqDiff, Nat.reduceAdd, Bl, Bm, Ch, Ci, h, K0, plC]
 refine ⟨AE (by kernel_rfl), ?_⟩
 cases hp : partB c (lessL a b) with
 | true =>
  have e : sureP c a b = 19 := by simp only [sureP, if_pos h, hp, if_true]
  simp (maxSteps := 2000000) only [go_sem, reduceIte, Nat.reduceEqDiff, Nat.reduceAdd, Nat.reduceBEq, Bl, Bm, Ch, Ci, e]
 | false =>
  have e : sureP c a b = 0 := by simp only [sureP, if_pos h, hp, Bool.false_eq_true, if_false]
  simp (maxSteps := 2000000) only [go_sem, reduceIte, Nat.reduceEqDiff, Nat.reduceAdd, Nat.reduceBEq, Bl, Bm, Ch, Ci, e]
end Go.Proofs.YtfgdbeijjbijnaaGreatDoor.Me
set_option linter.unusedSimpArgs false
set_option linter.unusedVariables false
set_option maxRecDepth 100000
namespace Go.Proofs.YtfgdbeijjbijnaaGreatDoor.Me
open Go Go.Abs Go.Proofs
def Pal.n (p : Pal) : Nat := (p.pig.getD 0 []).length
structure OkP (p : Pal) : Prop where
 k1 : 0 < p.pig.length
 k12 : p.pig.length ≤ 12
 n1 : 0 < p.n
 n8 : p.n ≤ 8
 row : ∀ r ∈ p.pig, r.length = p.n
 e0 : 0 ≤ p.err
 e1 : p.err ≤ 100
 v : ∀ r ∈ p.pig, ∀ x ∈ r, 0 ≤ x ∧ x ≤ 1000
def Pal.row (p : Pal) (i : Nat) : List Int := p.pig.getD i []
theorem OkP.at' {p : Pal} (h : OkP p) {i : Nat} (hi : i < p.pig.length) : p.pig[i]? = some (p.row i) ∧ (p.row i).length = p.n := by
 obtain ⟨r, hr⟩ := AD hi
 have e : p.row i = r := Fh hr
 rw [e]; exact ⟨hr, h.row r (List.mem_of_getElem? hr)⟩
theorem OkP.val {p : Pal} (h : OkP p) (i b : Nat) : 0 ≤ gI (p.row i) b ∧ gI (p.row i) b ≤ 1000 := by
 by_cases hi : i < p.pig.length
 ·obtain ⟨h1, h2⟩ := h.at' hi
  by_cases hb : b < p.n
  ·exact h.v _ (List.mem_of_getElem? h1) _ (List.mem_of_getElem? (ET (by omega)))
  ·have : gI (p.row i) b = 0 := by rw [gI, List.getD, List.getElem?_eq_none (by omega)]; rfl
   omega
 ·have : gI (p.row i) b = 0 := by
   have e : p.row i = [] := by rw [Pal.row, List.getD, List.getElem?_eq_none (by omega)]; rfl
   rw [e]; rfl
  omega
end Go.Proofs.YtfgdbeijjbijnaaGreatDoor.Me
set_option linter.unusedSimpArgs false
set_option linter.unusedVariables false
set_option maxRecDepth 100000
namespace Go.Proofs.YtfgdbeijjbijnaaGreatDoor.Me
open Go Go.Abs Go.Proofs
end Go.Proofs.YtfgdbeijjbijnaaGreatDoor.Me
set_option linter.unusedSimpArgs false
set_option linter.unusedVariables false
set_option maxRecDepth 100000
namespace Go.Proofs.YtfgdbeijjbijnaaGreatDoor.Me
open Go Go.Abs Go.Proofs
theorem RU {m : Nat} (h : m ≤ 4096) : (decide ((m + 1 + (m + 1) / 4 + 256) * 8 ≤ 281474976710656) && decide (m ≤ 140737488355327)) = true := by
 simp; omega
end Go.Proofs.YtfgdbeijjbijnaaGreatDoor.Me
set_option linter.unusedSimpArgs false
set_option linter.unusedVariables false
set_option maxRecDepth 100000
namespace Go.Proofs.YtfgdbeijjbijnaaGreatDoor.Me
open Go Go.Abs Go.Proofs
def Mm : List (Nat × List Nat) := [(0, [0]), (1, [0, 3]), (2, [3, 6, 7, 8]), (3, [3, 6, 7, 8, 9]), (4, [3, 5, 6, 7, 8]), (5, [3, 6, 7, 8]), (6, [3, 6, 7, 8]), (7, [2])]
theorem Ul : lookK Mm 0 = some [0] ∧ lookK Mm 1 = some [0, 3] ∧ lookK Mm 2 = some [3, 6, 7, 8] ∧ lookK Mm 3 = some [3, 6, 7, 8, 9] ∧ lookK Mm 4 = some [3, 5, 6, 7, 8] ∧ lookK Mm 5 = some [3, 6, 7, 8] ∧ lookK Mm 6 = some [3, 6, 7, 8] ∧ lookK Mm 7 = some [2] := ⟨rfl, rfl, rfl, rfl, rfl, rfl, rfl, rfl⟩
def Bc (l : List Rg) : List Int := l.map Rg.lo
def iC (n : Int) : C := .d (.int .i64 n)
def Bp (l : List Int) : List C := l.map iC
theorem D5 (m : Nat) (l : List Int) : C.lowL m (Bp l) = true := by
 induction l with
 | nil => rfl
 | cons a l ih => simp only [Bp, List.map_cons, C.lowL] at ih ⊢; rw [ih]; rfl
theorem Fo (m : Nat) (l : List Int) : C.freeL m (Bp l) = true := by
 induction l with
 | nil => rfl
 | cons a l ih => simp only [Bp, List.map_cons, C.freeL] at ih ⊢; rw [ih]; rfl
theorem IA (l : List Int) : (Bp l).length = l.length := by simp [Bp]
theorem Um (l : List Int) (x : Int) : Bp (l ++ [x]) = Bp l ++ [iC x] := by simp [Bp]
mutual
theorem C.low_le {n m : Nat} (h : n ≤ m) : ∀ {c : C}, c.low n = true → c.low m = true
 | .ptr i _, hc => by simp [C.low] at hc ⊢; omega
 | .own i _, hc => by simp [C.low] at hc ⊢; omega
 | .ms i _ _ _, hc => by simp [C.low] at hc ⊢; omega
 | .mp i, hc => by simp [C.low] at hc ⊢; omega
 | .yd i, hc => by simp [C.low] at hc ⊢; omega
 | .vs i _, hc => by simp [C.low] at hc ⊢; omega
 | .vc i _, hc => by simp [C.low] at hc ⊢; omega
 | .vp i _ _, hc => by simp [C.low] at hc ⊢; omega
 | .fs _ _ cs, hc => by simp only [C.low] at hc ⊢; exact C.lowL_le h hc
 | .fn _ cs, hc => by simp only [C.low] at hc ⊢; exact C.lowL_le h hc
 | .mv _ x, hc => by simp only [C.low] at hc ⊢; exact C.low_le h hc
 | .ma _ cs, hc => by simp only [C.low] at hc ⊢; exact C.lowL_le h hc
 | .any, _ => rfl
 | .d _, _ => rfl
 | .nilp, _ => rfl
 | .dp _, _ => rfl
 | .full _, _ => rfl
 | .gp _, _ => rfl
theorem C.lowL_le {n m : Nat} (h : n ≤ m) : ∀ {cs : List C}, C.lowL n cs = true → C.lowL m cs = true
 | [], _ => rfl
 | c :: cs, hc => by
  simp only [C.lowL, Bool.and_eq_true] at hc ⊢
  exact ⟨C.low_le h hc.1, C.lowL_le h hc.2⟩
end
mutual
theorem V.low_le {n m : Nat} (h : n ≤ m) : ∀ {c : V}, c.low n = true → c.low m = true
 | .c x, hc => C.low_le h hc
 | .agg cs, hc => C.lowL_le h hc
 | .tup vs, hc => V.lowL_le h hc
theorem V.lowL_le {n m : Nat} (h : n ≤ m) : ∀ {cs : List V}, V.lowL n cs = true → V.lowL m cs = true
 | [], _ => rfl
 | c :: cs, hc => by
  simp only [V.lowL, Bool.and_eq_true] at hc ⊢
  exact ⟨V.low_le h hc.1, V.lowL_le h hc.2⟩
end
theorem AB.low_le {n m : Nat} (h : n ≤ m) {b : AB} (hb : b.low n = true) : b.low m = true := by
 cases b with
 | cells cs => exact C.lowL_le h hb
 | vec _ _ cs => exact C.lowL_le h hb
 | mp es =>
  simp only [AB.low, List.all_eq_true, Bool.and_eq_true] at hb ⊢
  exact fun e he => ⟨V.low_le h (hb e he).1, V.low_le h (hb e he).2⟩
 | mpb es _ =>
  simp only [AB.low, List.all_eq_true, Bool.and_eq_true] at hb ⊢
  exact fun e he => ⟨V.low_le h (hb e he).1, V.low_le h (hb e he).2⟩
 | lp r =>
  simp only [AB.low, List.all_eq_true, Bool.and_eq_true, decide_eq_true_eq] at hb ⊢
  exact ⟨by omega, fun e he => V.low_le h (hb.2 e he)⟩
 | _ => rfl
theorem low_snoc {H : List AB} (hH : H.all (AB.low H.length) = true) {b : AB} (hb : b.low (H.length + 1) = true) : (H ++ [b]).all (AB.low (H ++ [b]).length) = true := by
 rw [List.all_append, List.length_append, Bool.and_eq_true]
 refine ⟨?_, by simpa using hb⟩
 rw [List.all_eq_true] at hH ⊢
 exact fun x hx => AB.low_le (Nat.le_succ _) (hH x hx)
theorem own_ok2 {m : Nat} (h : m ≤ 4096) : (decide ((m + 1 + (m + 1) / 4 + 256) * 16 ≤ 281474976710656) && decide (m ≤ 140737488355327)) = true := by
 simp; omega
theorem getA1 (A : List AB) (x : AB) : (A ++ [x])[A.length]? = some x := by simp
theorem getA2 (A : List AB) (x y : AB) : (A ++ [x] ++ [y])[A.length]? = some x := by rw [List.append_assoc]; simp
theorem setA1 (A : List AB) (x y : AB) : (A ++ [x]).set A.length y = A ++ [y] := by simp
theorem setA2 (A : List AB) (x y z : AB) : (A ++ [x] ++ [y]).set A.length z = A ++ [z] ++ [y] := by simp [List.append_assoc]
set_option maxHeartbeats 4000000 in
theorem lows67 (l : List Rg) (hl : l.length ≤ 4096) (H : List AB) : Ad Tryz.prog 59 [rgs l] H (one (.c (.vs H.length l.length)) (H ++ [.vec l.length 1 (Bp (Bc l))])) := by
 refine Ad.low_of Tryz.func59 rfl rfl (fun hH => ?_)
 have hlow : ∀ (n : Nat) (cs : List Int), (H ++ [AB.vec n 1 (Bp cs)]).all (AB.low (H ++ [AB.vec n 1 (Bp cs)]).length) = true := fun n cs => low_snoc hH (D5 _ _)
 refine Ad.drop2 (by simp) (by simp [V.low, C.low]) (hlow _ _) ?_
 refine acall_fitE (bad := []) (kp := Mm) (X := tx) (nt := 24) (rs := [.tmp 2]) Tryz.func59 rfl rfl rfl rfl mo (by kernel_rfl) (fun hf => ?_)
 simp (maxSteps := 2000000) only [go_sem, reduceIte, Nat.reduceEqDiff, Nat.reduceAdd, Ul, rgs]
 refine goE_loop (bad := []) (kp := Mm) (fun i : Nat => { slots := [(3, .c (.vs H.length i)), (6, rgs l), (7, I l.length), (8, I i)], heap := H ++ [.vec i 1 (Bp ((Bc l).take i))], marks := [] }) (fun i => i ≤ l.length) (fun i => l.length - i) 0 mo (by kernel_rfl) ?_ (Nat.zero_le _) ?_
 ·refine Ent.trans (aEc 3 1 rfl) ?_
  refine ent_weaken [] (by simp [Bp]) rfl (by simp; exact Nat.le_succ _) (hlow _ _) rfl ?_
  simp (maxSteps := 2000000) only [go_sem, reduceIte, Nat.reduceEqDiff, Ul, rgs, List.length_append, List.length_singleton]
  refine ⟨by simp, .refl _⟩
 rintro i hi
 simp (maxSteps := 2000000) only [go_sem, reduceIte, Nat.reduceEqDiff, Nat.reduceAdd, Ul, rgs]
 by_cases hlt : i < l.length
 ·have hlt' : (i : Int) < l.length := by omega
  have m1 : l.length - (i + 1) < l.length - i := by omega
  have w3 : wr .i64 ((i : Int) + 1) = ((i + 1 : Nat) : Int) := Az hlt (by omega)
  obtain ⟨x, hx⟩ := AD hlt
  have hx2 : (Bc l)[i]? = some x.lo := by rw [Bc, List.getElem?_map, hx]; rfl
  have e1 := Fe hx2
  simp (maxSteps := 2000000) only [go_sem, reduceIte, Nat.reduceEqDiff, Nat.reduceAdd, Nat.reduceLT, Nat.reduceLeDiff, Nat.reduceBEq, Nat.reduceMul, Ul, hlt', hx, rgD, nn, getA1, getA2, setA1, setA2, w3]
  refine ⟨RU (by omega), i + 1, hlt, m1, ?_⟩
  refine ent_weaken [.cells (rgC x)] (by rw [e1, Um]; rfl) rfl (by simp; exact Nat.le_succ _) (hlow _ _) rfl ?_
  simp (maxSteps := 2000000) only [go_sem, reduceIte, Nat.reduceEqDiff, Ul, rgs, List.length_append, List.length_singleton]
  first | done | simp
 ·have hlt' : ¬ (i : Int) < l.length := by omega
  have e : i = l.length := by omega
  subst e
  have e2 : List.take l.length (Bc l) = Bc l := List.take_of_length_le (by simp [Bc])
  simp (maxSteps := 2000000) only [go_sem, reduceIte, Nat.reduceEqDiff, Nat.reduceAdd, Ul, hlt', e2]
  exact ⟨[], by simp⟩
end Go.Proofs.YtfgdbeijjbijnaaGreatDoor.Me
set_option linter.unusedSimpArgs false
set_option linter.unusedVariables false
set_option maxRecDepth 100000
namespace Go.Proofs.YtfgdbeijjbijnaaGreatDoor.Me
open Go Go.Abs Go.Proofs
def El : List (Nat × List Nat) := [(0, [1, 2, 4]), (1, [1, 2, 4, 5]), (2, [1, 2, 4, 5, 6]), (3, [1, 2, 4, 5, 6, 7]), (4, [1, 2, 4, 5, 6, 7, 15]), (5, [1, 2, 4, 5, 6, 7]), (6, [1, 2, 4, 5, 6, 7]), (7, [1, 2, 4, 5, 6, 7]), (8, [1, 2, 4, 5, 6, 8]), (9, [1, 2, 4, 5, 6, 8, 37]), (10, [1, 2, 4, 5, 6, 8]), (11, [1, 2, 4, 5, 6, 8, 9]), (12, [1, 2, 4, 5, 6, 8, 9, 10]), (13, [1, 2, 4, 5, 6, 8, 9, 10, 47]), (14, [1, 2, 4, 5, 6, 8, 9, 10]), (15, [1, 2, 4, 5, 6, 8, 9, 10]), (16, [1, 2, 4, 5, 6, 8, 9, 10]), (17, [1, 2, 4, 5, 6, 8]), (18, [4])]
theorem EV : lookK El 0 = some [1, 2, 4] ∧ lookK El 1 = some [1, 2, 4, 5] ∧ lookK El 2 = some [1, 2, 4, 5, 6] ∧ lookK El 3 = some [1, 2, 4, 5, 6, 7] ∧ lookK El 4 = some [1, 2, 4, 5, 6, 7, 15] ∧ lookK El 5 = some [1, 2, 4, 5, 6, 7] ∧ lookK El 6 = some [1, 2, 4, 5, 6, 7] ∧ lookK El 7 = some [1, 2, 4, 5, 6, 7] ∧ lookK El 8 = some [1, 2, 4, 5, 6, 8] ∧ lookK El 9 = some [1, 2, 4, 5, 6, 8, 37] ∧ lookK El 10 = some [1, 2, 4, 5, 6, 8] ∧ lookK El 11 = some [1, 2, 4, 5, 6, 8, 9] ∧ lookK El 12 = some [1, 2, 4, 5, 6, 8, 9, 10] ∧ lookK El 13 = some [1, 2, 4, 5, 6, 8, 9, 10, 47] ∧ lookK El 14 = some [1, 2, 4, 5, 6, 8, 9, 10] ∧ lookK El 15 = some [1, 2, 4, 5, 6, 8, 9, 10] ∧ lookK El 16 = some [1, 2, 4, 5, 6, 8, 9, 10] ∧ lookK El 17 = some [1, 2, 4, 5, 6, 8] ∧ lookK El 18 = some [4] := ⟨rfl, rfl, rfl, rfl, rfl, rfl, rfl, rfl, rfl, rfl, rfl, rfl, rfl, rfl, rfl, rfl, rfl, rfl, rfl⟩
def aCh : List (Nat × List Nat) := [(0, [1, 2, 3]), (1, [1, 2, 3, 9]), (2, [6]), (3, [6])]
theorem EW : lookK aCh 0 = some [1, 2, 3] ∧ lookK aCh 1 = some [1, 2, 3, 9] ∧ lookK aCh 2 = some [6] ∧ lookK aCh 3 = some [6] := ⟨rfl, rfl, rfl, rfl⟩
def hD (n : Int) : List D := [.int .u16 n]
def u16s (l : List Int) : V := .c (.d (.sl (l.map hD)))
def B16 (l : List Int) : Prop := ∀ n ∈ l, 0 ≤ n ∧ n < 65536
def Fx (r : Rg) (by' : List Int) (at' : Nat) : Int := if by'.length = 0 then r.lo else r.lo + gI by' (at' % by'.length) % (r.hi - r.lo + 1)
theorem K1 {r : Rg} (h : r.lo ≤ r.hi) (by' : List Int) (at' : Nat) : r.lo ≤ Fx r by' at' ∧ Fx r by' at' ≤ r.hi := by
 unfold Fx
 split
 ·omega
 ·have h1 := Int.emod_nonneg (gI by' (at' % by'.length)) (show r.hi - r.lo + 1 ≠ 0 by omega)
  have h2 := Int.emod_lt_of_pos (gI by' (at' % by'.length)) (show 0 < r.hi - r.lo + 1 by omega)
  omega
set_option maxHeartbeats 2000000 in
theorem aCi (r : Rg) (by' : List Int) (at' : Nat) (hr : r.lo ≤ r.hi) (h0 : -1000000 ≤ r.lo) (h1 : r.hi ≤ 1000000) (hb : B16 by') (ha : at' ≤ 1000000) : AF Tryz.prog 44 [rgV r, u16s by', I at'] (I (Fx r by' at')) := by
 refine pure_wkE (bad := []) (kp := aCh) (X := tx) (nt := 30) (rs := [.tmp 6]) Tryz.func44 rfl rfl rfl rfl mo (by kernel_rfl) rfl rfl (fun hf => ?_)
 have hfit := Of (hf (u16s by') (by simp))
 rw [List.length_map] at hfit
 by_cases hl : by'.length = 0
 ·have hl' : (by'.length : Int) = 0 := by omega
  have e : Fx r by' at' = r.lo := by simp only [Fx, if_pos hl]
  simp (maxSteps := 2000000) only [go_sem, reduceIte, Nat.reduceEqDiff, Nat.reduceAdd, Nat.reduceLeDiff, Nat.reduceBEq, EV, EW, rgV, rgC, u16s, hl', e]
 have hl' : ¬ (by'.length : Int) = 0 := by omega
 have e : Fx r by' at' = r.lo + gI by' (at' % by'.length) % (r.hi - r.lo + 1) := by simp only [Fx, if_neg hl]
 have hm : at' % by'.length < by'.length := Nat.mod_lt _ (by omega)
 have g1 := ET hm
 have hv := hb _ (List.mem_of_getElem? g1)
 have t1 : ((at' : Int)).tmod (by'.length : Int) = ((at' % by'.length : Nat) : Int) := by rw [Int.tmod_eq_emod_of_nonneg (Int.natCast_nonneg _)]; rfl
 have c1 : ((at' % by'.length : Nat) : Int) < by'.length := by omega
 have w0 : wr .i64 (gI by' (at' % by'.length)) = gI by' (at' % by'.length) := KX (by omega)
 have w1 : wr .i64 (r.hi - r.lo) = r.hi - r.lo := KX (by omega)
 have w2 : wr .i64 (r.hi - r.lo + 1) = r.hi - r.lo + 1 := KX (by omega)
 have t2 : (gI by' (at' % by'.length)).tmod (r.hi - r.lo + 1) = gI by' (at' % by'.length) % (r.hi - r.lo + 1) := Int.tmod_eq_emod_of_nonneg hv.1
 have p1 := K1 hr by' at'
 rw [e] at p1
 have w3 : wr .i64 (gI by' (at' % by'.length) % (r.hi - r.lo + 1)) = gI by' (at' % by'.length) % (r.hi - r.lo + 1) := KX (by omega)
 have w4 : wr .i64 (r.lo + gI by' (at' % by'.length) % (r.hi - r.lo + 1)) = r.lo + gI by' (at' % by'.length) % (r.hi - r.lo + 1) := KX (by omega)
 have q1 : ¬ (r.hi - r.lo + 1 = 0) := by omega
 have w5 : wr .i64 ((at' % by'.length : Nat) : Int) = ((at' % by'.length : Nat) : Int) := by rw [Cl] <;> omega
 clear p1
 simp (maxSteps := 2000000) only [go_sem, reduceIte, Nat.reduceEqDiff, Nat.reduceAdd, Nat.reduceLeDiff, Nat.reduceBEq, EV, EW, rgV, rgC, u16s, hl', hD, t1, g1, c1, nn, w0, w1, w2, t2, w3, w4, q1, w5, e]
def aCj (c : Cs) (by' : List Int) (i b : Nat) : Int := Fx (c.e i b) by' (c.lamp.length + i * c.lamp.length + b)
def HR (c : Cs) (by' : List Int) (i n : Nat) : List Int := (List.range n).map (aCj c by' i)
def HS (c : Cs) (by' : List Int) (n : Nat) : List Int := (List.range n).map (fun b => Fx (c.l b) by' b)
def trueT (c : Cs) (by' : List Int) : Tr := ⟨(List.range 3).map (fun i => HR c by' i c.lamp.length), HS c by' c.lamp.length⟩
theorem RV (c : Cs) (by' : List Int) (n : Nat) : HS c by' (n + 1) = HS c by' n ++ [Fx (c.l n) by' n] := Ek _ _
theorem RW (c : Cs) (by' : List Int) (i n : Nat) : HR c by' i (n + 1) = HR c by' i n ++ [aCj c by' i n] := Ek _ _
theorem Un (c : Cs) (by' : List Int) (n : Nat) : (HS c by' n).length = n := by simp [HS]
theorem Uo (c : Cs) (by' : List Int) (i n : Nat) : (HR c by' i n).length = n := by simp [HR]
def Gx (c : Cs) (by' : List Int) (n : Nat) : List (List D) := (List.range n).map (fun i => Ff (HR c by' i c.lamp.length))
theorem RX (c : Cs) (by' : List Int) (n : Nat) : Gx c by' (n + 1) = Gx c by' n ++ [Ff (HR c by' n c.lamp.length)] := Ek _ _
theorem Up (c : Cs) (by' : List Int) (n : Nat) : (Gx c by' n).length = n := by simp [Gx]
theorem aE9 {n i b : Nat} (hn : n ≤ 8) (hi : i < 3) (hb : b < n) : n + i * n + b ≤ 1000000 := by
 have h1 : i * n ≤ 3 * 8 := Nat.mul_le_mul (by omega) hn
 omega
theorem aEC {n i b : Nat} (hn : n ≤ 8) (hi : i < 3) (hb : b < n) : wr .i64 (((n + i * n + b : Nat) : Int) + 1) = ((n + i * n + (b + 1) : Nat) : Int) := by
 have h1 := aE9 hn hi hb
 generalize i * n = m at h1
 rw [Cl] <;> omega
theorem aED {m : Nat} (h : m ≤ 4096) : (decide ((m + 1 + (m + 1) / 4 + 256) * 24 ≤ 281474976710656) && decide (m ≤ 140737488355327)) = true := by
 simp; omega
theorem Uq (c : Cs) (by' : List Int) (i : Nat) : (Gx c by' i).all (fun r => r.length == 1) = true := by simp [Gx, Ff]
set_option maxHeartbeats 8000000 in
theorem true43 (c : Cs) (by' : List Int) (hc : OkC c) (hb : B16 by') : AF Tryz.prog 10 [csV c, u16s by'] (trV (trueT c by')) := by
 refine pure_wkE (bad := []) (kp := El) (X := tx) (nt := 73) (rs := [.cell 4 34]) Tryz.func10 rfl rfl rfl rfl mo (by kernel_rfl) rfl rfl (fun hf => ?_)
 have h8 := hc.n8
 have he3 := hc.e3
 have he3' : (c.eye.length : Int) = 3 := by omega
 simp (maxSteps := 2000000) only [go_sem, reduceIte, Nat.reduceEqDiff, Nat.reduceAdd, EV, EW, csV, csC, u16s]
 refine goE_loop (bad := []) (kp := El) (fun b : Nat => { slots := [(1, u16s by'), (2, .c (.ptr 0 0)), (4, .c (.ptr 1 0)), (5, .c (.ptr 2 0)), (6, I b), (7, I b)], heap := [.cells (csC c), .cells [.full [], .full []], .cells [.own 4 [], .own 3 ((HS c by' b).map iD)], .grow b 1, .grow 0 1], marks := [] }) (fun b => b ≤ c.lamp.length) (fun b => c.lamp.length - b) 0 mo (by kernel_rfl) ?_ (Nat.zero_le _) ?_
 ·refine Ent.trans (Go.Abs.Fd 2 1 1 rfl rfl) ?_
  refine Ent.trans (Go.Abs.Fd 2 0 1 rfl rfl) ?_
  refine ent_weaken [] rfl rfl (Nat.zero_le _) rfl rfl ?_
  simp (maxSteps := 2000000) only [go_sem, reduceIte, Nat.reduceEqDiff, Nat.reduceAdd, Nat.reduceLT, EV, EW, u16s, csC]
  all_goals first | exact .refl _ | exact ⟨.refl _, .refl _⟩ | exact ⟨.refl _, .refl _, .refl _⟩ | exact ⟨.refl _, _, rfl⟩ | exact ⟨_, rfl⟩ | exact ⟨.refl _, [], by simp⟩ | exact ⟨[], by simp⟩
 rintro b hb1
 simp (maxSteps := 2000000) only [go_sem, reduceIte, Nat.reduceEqDiff, Nat.reduceAdd, Nat.reduceBEq, EV, EW, u16s, csC]
 by_cases hlt : b < c.lamp.length
 ·have hlt' : (b : Int) < c.lamp.length := by omega
  have m1 : c.lamp.length - (b + 1) < c.lamp.length - b := by omega
  have g1 := Cs.l_lt hlt
  have q1 := hc.bl b
  have hq := RU (m := b) (by omega)
  have w3 : wr .i64 ((b : Int) + 1) = ((b + 1 : Nat) : Int) := Az hlt (by omega)
  have hp := aCi (c.l b) by' b (by omega) (by omega) (by omega) hb (by omega)
  have hall : ((HS c by' b).map iD).all (fun r => r.length == 1) = true := by simp [iD]
  simp (maxSteps := 2000000) only [go_sem, reduceIte, Nat.reduceEqDiff, Nat.reduceAdd, Nat.reduceBEq, EV, EW, hlt', g1, rgD, nn]
  refine Af (hp) rfl rfl (by first | exact wk_refls _ | (repeat constructor)) (by kernel_rfl) ?_
  simp (maxSteps := 2000000) only [go_sem, reduceIte, Nat.reduceEqDiff, Nat.reduceAdd, Nat.reduceLT, Nat.reduceLeDiff, Nat.reduceBEq, Nat.reduceMul, EV, EW, Un, w3]
  refine ⟨by simpa [iD] using hq, b + 1, hlt, m1, ?_⟩
  refine ent_weaken [] (by rw [RV, List.map_append]; rfl) rfl (Nat.zero_le _) rfl rfl ?_
  simp (maxSteps := 2000000) only [go_sem, reduceIte, Nat.reduceEqDiff, Nat.reduceAdd, Nat.reduceLT, EV, EW, u16s, csC]
  all_goals first | exact .refl _ | exact ⟨.refl _, .refl _⟩ | exact ⟨.refl _, .refl _, .refl _⟩ | exact ⟨.refl _, _, rfl⟩ | exact ⟨_, rfl⟩ | exact ⟨.refl _, [], by simp⟩ | exact ⟨[], by simp⟩
 have hlt' : ¬ (b : Int) < c.lamp.length := by omega
 have e : b = c.lamp.length := by omega
 subst e
 simp (maxSteps := 2000000) only [go_sem, reduceIte, Nat.reduceEqDiff, Nat.reduceAdd, EV, EW, hlt']
 refine goE_loop (bad := []) (kp := El) (fun i : Nat => { slots := [(1, u16s by'), (2, .c (.ptr 0 0)), (4, .c (.ptr 1 0)), (5, .c (.ptr 2 0)), (6, I ((c.lamp.length + i * c.lamp.length : Nat) : Int)), (8, I i)], heap := [.cells (csC c), .cells [.full [], .full []], .cells [.own 4 (Gx c by' i), .own 3 ((HS c by' c.lamp.length).map iD)], .grow c.lamp.length 1, .grow i 1], marks := [] }) (fun i => i ≤ 3) (fun i => 3 - i) 0 mo (by kernel_rfl) ?_ (Nat.zero_le _) ?_
 ·refine ent_weaken [] rfl rfl (Nat.zero_le _) rfl rfl ?_
  simp (maxSteps := 2000000) only [go_sem, reduceIte, Nat.reduceEqDiff, Nat.reduceAdd, Nat.reduceLT, EV, EW, u16s, csC, Nat.zero_mul, Nat.add_zero]
  all_goals first | exact .refl _ | exact ⟨.refl _, .refl _⟩ | exact ⟨.refl _, .refl _, .refl _⟩ | exact ⟨.refl _, _, rfl⟩ | exact ⟨_, rfl⟩ | exact ⟨.refl _, [], by simp⟩ | exact ⟨[], by simp⟩
 rintro i hi
 simp (maxSteps := 2000000) only [go_sem, reduceIte, Nat.reduceEqDiff, Nat.reduceAdd, Nat.reduceLeDiff, Nat.reduceBEq, EV, EW, u16s, csC]
 by_cases hlt2 : i < 3
 case neg =>
  have hlt2' : ¬ (i : Int) < 3 := by omega
  have e : i = 3 := by omega
  subst e
  have he : Gx c by' 3 = (trueT c by').eye.map Ff := by simp [Gx, trueT]
  simp (maxSteps := 2000000) only [go_sem, reduceIte, Nat.reduceEqDiff, Nat.reduceAdd, Nat.reduceSub, EV, EW, hlt2', he3', trV, trC, he]
  exact .own _ _
 have hlt2' : (i : Int) < 3 := by omega
 obtain ⟨row, hr, hrl⟩ := hc.row hlt2
 have hrl' : (row.length : Int) = c.lamp.length := by omega
 have k1 : (i : Int) < c.eye.length := by omega
 have m2 : 3 - (i + 1) < 3 - i := by omega
 have w4 : wr .i64 ((i : Int) + 1) = ((i + 1 : Nat) : Int) := by rw [Cl] <;> omega
 simp (maxSteps := 2000000) only [go_sem, reduceIte, Nat.reduceEqDiff, Nat.reduceAdd, EV, EW, hlt2', he3']
 refine goE_loop (bad := []) (kp := El) (fun b : Nat => { slots := [(1, u16s by'), (2, .c (.ptr 0 0)), (4, .c (.ptr 1 0)), (5, .c (.ptr 2 0)), (6, I ((c.lamp.length + i * c.lamp.length + b : Nat) : Int)), (8, I i), (9, .c (.own 5 ((HR c by' i b).map iD))), (10, I b)], heap := [.cells (csC c), .cells [.full [], .full []], .cells [.own 4 (Gx c by' i), .own 3 ((HS c by' c.lamp.length).map iD)], .grow c.lamp.length 1, .grow i 1, .grow b 1], marks := [] }) (fun b => b ≤ c.lamp.length) (fun b => c.lamp.length - b) 0 mo (by kernel_rfl) ?_ (Nat.zero_le _) ?_
 ·refine Ent.trans (ent_own 9 1 rfl) ?_
  refine ent_weaken [] rfl rfl (Nat.zero_le _) rfl rfl ?_
  simp (maxSteps := 2000000) only [go_sem, reduceIte, Nat.reduceEqDiff, Nat.reduceAdd, Nat.reduceLT, EV, EW, u16s, csC, Nat.add_zero]
  all_goals first | exact .refl _ | exact ⟨.refl _, .refl _⟩ | exact ⟨.refl _, .refl _, .refl _⟩ | exact ⟨.refl _, _, rfl⟩ | exact ⟨_, rfl⟩ | exact ⟨.refl _, [], by simp⟩ | exact ⟨[], by simp⟩
 rintro b hb2
 simp (maxSteps := 2000000) only [go_sem, reduceIte, Nat.reduceEqDiff, Nat.reduceAdd, Nat.reduceLeDiff, Nat.reduceBEq, EV, EW, u16s, csC]
 by_cases hltb : b < c.lamp.length
 ·have hltb' : (b : Int) < c.lamp.length := by omega
  have m3 : c.lamp.length - (b + 1) < c.lamp.length - b := by omega
  have g2 := Cs.e_at hr (b := b) (by omega)
  have q1 := hc.be i b
  have hq := RU (m := b) (by omega)
  have w5 : wr .i64 ((b : Int) + 1) = ((b + 1 : Nat) : Int) := Az hltb (by omega)
  have w6 := aEC h8 hlt2 hltb
  have hp := aCi (c.e i b) by' (c.lamp.length + i * c.lamp.length + b) q1.2.1 (by omega) (by omega) hb (aE9 h8 hlt2 hltb)
  have hall : ((HR c by' i b).map iD).all (fun r => r.length == 1) = true := by simp [iD]
  simp (maxSteps := 2000000) only [go_sem, reduceIte, Nat.reduceEqDiff, Nat.reduceAdd, Nat.reduceLeDiff, Nat.reduceBEq, EV, EW, hr, rowR, rgD, nn, k1, hrl', hltb', g2]
  refine Ac (hp) rfl rfl (by first | exact wk_refls _ | (repeat constructor)) ?_
  simp (maxSteps := 2000000) only [go_sem, reduceIte, Nat.reduceEqDiff, Nat.reduceLT, Nat.reduceLeDiff, Nat.reduceBEq, Nat.reduceMul, EV, EW, Uo, w5, w6]
  refine ⟨by simpa [iD] using hq, b + 1, hltb, m3, ?_⟩
  refine ent_weaken [] rfl rfl (Nat.zero_le _) rfl rfl ?_
  simp (maxSteps := 2000000) only [go_sem, reduceIte, Nat.reduceEqDiff, Nat.reduceAdd, Nat.reduceLT, EV, EW, u16s, csC, RW, List.map_append, List.map_cons, List.map_nil, iD]
  all_goals first | exact .refl _ | exact ⟨.refl _, .refl _⟩ | exact ⟨.refl _, .refl _, .refl _⟩ | exact ⟨.refl _, _, rfl⟩ | exact ⟨_, rfl⟩ | exact ⟨.refl _, [], by simp⟩ | exact ⟨[], by simp⟩
 ·have hltb' : ¬ (b : Int) < c.lamp.length := by omega
  have e : b = c.lamp.length := by omega
  subst e
  have hq3 := aED (m := i) (by omega)
  simp (maxSteps := 2000000) only [go_sem, reduceIte, Nat.reduceEqDiff, Nat.reduceAdd, Nat.reduceLT, Nat.reduceLeDiff, Nat.reduceBEq, Nat.reduceMul, EV, EW, hr, rowR, nn, k1, hrl', hltb', w4, Up, Uq]
  refine ⟨by simpa using hq3, i + 1, hlt2, m2, ?_⟩
  refine ent_weaken [.grow c.lamp.length 1] (by rw [RX]; rfl) rfl (Nat.zero_le _) rfl rfl ?_
  simp (maxSteps := 2000000) only [go_sem, reduceIte, Nat.reduceEqDiff, Nat.reduceAdd, Nat.reduceLT, EV, EW, u16s, csC, Nat.succ_mul]
  rw [Nat.add_assoc]
  exact .refl _
end Go.Proofs.YtfgdbeijjbijnaaGreatDoor.Me
