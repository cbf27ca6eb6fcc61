/- Zones: the statement Turned. -/
import Derived.Test.YtliamojogmlgjaaZ26
set_option linter.unusedSimpArgs false
set_option linter.unusedVariables false
set_option maxRecDepth 100000
namespace Go.Proofs.Ytliamojogmlgjaa
open Go Go.Abs Go.Proofs
def kp10 : List (Nat × List Nat) := [(0, [1, 2]), (1, [1, 2, 30]), (2, [4]), (3, [1, 2, 5]), (4, [1, 2, 5, 6]), (5, [1, 2, 5, 6, 37]), (6, [1, 2, 5, 6]), (7, [1, 2, 5, 6]), (8, [1, 2, 5, 7]), (9, [1, 2, 5, 7, 66]), (10, [1, 2, 5, 7]), (11, [1, 2, 5, 7]), (12, [1, 2, 5, 8]), (13, [1, 2, 5, 8, 85]), (14, [1, 2, 5, 8]), (15, [1, 2, 5, 8]), (16, [2, 5, 9]), (17, [2, 5, 9, 10, 11]), (18, [2, 5, 9, 10, 11, 12, 13]), (19, [2, 5, 9, 10, 11, 12, 13, 14, 15]), (20, [2, 5, 10, 11, 12, 13, 14, 15, 16, 17]), (21, [5, 10, 11, 12, 13, 14, 15, 16, 17, 20]), (22, [10, 11, 12, 13, 14, 15, 16, 17, 20, 23]), (23, [4])]
theorem lk10 : lookK kp10 0 = some [1, 2] ∧ lookK kp10 1 = some [1, 2, 30] ∧ lookK kp10 2 = some [4] ∧ lookK kp10 3 = some [1, 2, 5] ∧ lookK kp10 4 = some [1, 2, 5, 6] ∧ lookK kp10 5 = some [1, 2, 5, 6, 37] ∧ lookK kp10 6 = some [1, 2, 5, 6] ∧ lookK kp10 7 = some [1, 2, 5, 6] ∧ lookK kp10 8 = some [1, 2, 5, 7] ∧ lookK kp10 9 = some [1, 2, 5, 7, 66] ∧ lookK kp10 10 = some [1, 2, 5, 7] ∧ lookK kp10 11 = some [1, 2, 5, 7] ∧ lookK kp10 12 = some [1, 2, 5, 8] ∧ lookK kp10 13 = some [1, 2, 5, 8, 85] ∧ lookK kp10 14 = some [1, 2, 5, 8] ∧ lookK kp10 15 = some [1, 2, 5, 8] ∧ lookK kp10 16 = some [2, 5, 9] ∧ lookK kp10 17 = some [2, 5, 9, 10, 11] ∧ lookK kp10 18 = some [2, 5, 9, 10, 11, 12, 13] ∧ lookK kp10 19 = some [2, 5, 9, 10, 11, 12, 13, 14, 15] ∧ lookK kp10 20 = some [2, 5, 10, 11, 12, 13, 14, 15, 16, 17] ∧ lookK kp10 21 = some [5, 10, 11, 12, 13, 14, 15, 16, 17, 20] ∧ lookK kp10 22 = some [10, 11, 12, 13, 14, 15, 16, 17, 20, 23] ∧ lookK kp10 23 = some [4] := ⟨rfl, rfl, rfl, rfl, rfl, rfl, rfl, rfl, rfl, rfl, rfl, rfl, rfl, rfl, rfl, rfl, rfl, rfl, rfl, rfl, rfl, rfl, rfl, rfl⟩

/-- A lamp turned round. -/
def rvL (l : La) : La := ⟨l.an.reverse.map (fun a => 90 - a), l.li.reverse, l.fa.reverse.map (fun b => !b), l.we.reverse⟩
theorem rev_get {α : Type} {l : List α} {k : Nat} (h : k < l.length) : l.reverse[k]? = l[l.length - 1 - k]? := by
  rw [List.getElem?_reverse h]
theorem rv_an {l : La} {k : Nat} (h : k < l.an.length) : gI (rvL l).an k = 90 - gI l.an (l.an.length - 1 - k) ∧ (rvL l).an[k]? = some (90 - gI l.an (l.an.length - 1 - k)) := by
  have e : (rvL l).an[k]? = some (90 - gI l.an (l.an.length - 1 - k)) := by
    show (l.an.reverse.map (fun a => 90 - a))[k]? = _
    rw [List.getElem?_map, rev_get h, gI_lt (by omega)]; rfl
  exact ⟨by simp [gI, List.getD, e], e⟩
theorem rv_li {l : La} {k : Nat} (h : k < l.li.length) : gR (rvL l).li k = gR l.li (l.li.length - 1 - k) ∧ (rvL l).li[k]? = some (gR l.li (l.li.length - 1 - k)) := by
  have e : (rvL l).li[k]? = some (gR l.li (l.li.length - 1 - k)) := by
    show l.li.reverse[k]? = _
    rw [rev_get h, gR_lt (by omega)]
  exact ⟨by simp [gR, List.getD, e], e⟩
theorem rv_fa {l : La} {k : Nat} (h : k < l.fa.length) : gB (rvL l).fa k = !gB l.fa (l.fa.length - 1 - k) ∧ (rvL l).fa[k]? = some (!gB l.fa (l.fa.length - 1 - k)) := by
  have e : (rvL l).fa[k]? = some (!gB l.fa (l.fa.length - 1 - k)) := by
    show (l.fa.reverse.map (fun b => !b))[k]? = _
    rw [List.getElem?_map, rev_get h, gB_lt (by omega)]; rfl
  exact ⟨by simp [gB, List.getD, e], e⟩
theorem rv_we {l : La} {k : Nat} (h : k < l.we.length) : gI (rvL l).we k = gI l.we (l.we.length - 1 - k) ∧ (rvL l).we[k]? = some (gI l.we (l.we.length - 1 - k)) := by
  have e : (rvL l).we[k]? = some (gI l.we (l.we.length - 1 - k)) := by
    show l.we.reverse[k]? = _
    rw [rev_get h, gI_lt (by omega)]
  exact ⟨by simp [gI, List.getD, e], e⟩
theorem rv_len (l : La) : (rvL l).an.length = l.an.length ∧ (rvL l).li.length = l.li.length ∧ (rvL l).fa.length = l.fa.length ∧ (rvL l).we.length = l.we.length := by simp [rvL]
theorem rv_ok {l : La} (h : OkLa l) : OkLa (rvL l) := by
  obtain ⟨e1, e2, e3, e4⟩ := rv_len l
  have m2 := h.m2
  have hli := h.li
  refine ⟨by rw [e1]; exact m2, by rw [e1]; exact h.m11, fun i hi => ?_, fun i hi => ?_, by rw [e1, e2]; exact hli, by rw [e1, e3]; exact h.fa, ?_, fun i hi => ?_, fun k hk => ?_⟩
  · rw [e1] at hi
    rw [(rv_an hi).1]
    have := h.a0 (l.an.length - 1 - i) (by omega)
    omega
  · rw [e1] at hi
    rw [(rv_an (show i < l.an.length by omega)).1, (rv_an hi).1]
    have := h.up (l.an.length - 1 - (i + 1)) (by omega)
    rw [show l.an.length - 1 - (i + 1) + 1 = l.an.length - 1 - i by omega] at this
    omega
  · rw [e1, e4, (rv_an (show l.an.length - 1 < l.an.length by omega)).1, (rv_an (show 0 < l.an.length by omega)).1, Nat.sub_self, Nat.sub_zero]
    have := h.we
    omega
  · rw [e1] at hi
    rw [(rv_li (show i < l.li.length by omega)).1]
    exact h.lr _ (by omega)
  · rw [e4] at hk
    rw [(rv_we hk).1]
    exact h.wr _ (by omega)
theorem rv_P {l : La} (h : OkLa l) {j : Nat} (hj : j < l.an.length) : P (rvL l) j + P l (l.an.length - 1 - j) + 1 = l.we.length := by
  have m2 := h.m2
  have a := (rv_ok h).p (i := j) (by rw [(rv_len l).1]; exact hj)
  rw [(rv_an hj).1, (rv_an (show 0 < l.an.length by omega)).1, Nat.sub_zero] at a
  have b := h.p (i := l.an.length - 1 - j) (by omega)
  have := h.we
  omega
theorem rv_L0 {l : La} (h : OkLa l) {k : Nat} (hk : k < l.we.length) : L0 (rvL l) k = L0 l (l.we.length - 1 - k) ∧ H0 (rvL l) k = H0 l (l.we.length - 1 - k) := by
  have okr := rv_ok h
  have hli := h.li
  obtain ⟨e1, e2, e3, e4⟩ := rv_len l
  by_cases c : ∃ i, i < l.an.length ∧ P l i = l.we.length - 1 - k
  · obtain ⟨i, hi, he⟩ := c
    have hp := rv_P h (j := l.an.length - 1 - i) (by omega)
    rw [show l.an.length - 1 - (l.an.length - 1 - i) = i by omega] at hp
    have hk2 : P (rvL l) (l.an.length - 1 - i) = k := by omega
    have a := L0_at okr (i := l.an.length - 1 - i) (by rw [e1]; omega)
    have b := H0_at okr (i := l.an.length - 1 - i) (by rw [e1]; omega)
    rw [hk2] at a b
    rw [a, b, ← he, L0_at h hi, H0_at h hi]
    unfold lis his
    rw [(rv_li (show l.an.length - 1 - i < l.li.length by omega)).1, show l.li.length - 1 - (l.an.length - 1 - i) = i by omega]
    exact ⟨rfl, rfl⟩
  · have a := L0_no h (j := l.we.length - 1 - k) (fun i hi he => c ⟨i, hi, he⟩)
    have b := L0_no okr (j := k) (fun i hi he => by
      rw [e1] at hi
      have hp := rv_P h hi
      exact c ⟨l.an.length - 1 - i, by omega, by omega⟩)
    exact ⟨by rw [a.1, b.1], by rw [a.2, b.2]⟩
theorem rv_dir {l : La} (h : OkLa l) {k : Nat} (hk : k + 1 < l.we.length) : dir (rvL l) (k + 1) = !dir l (l.we.length - 1 - k) := by
  have okr := rv_ok h
  have hfa := h.fa
  obtain ⟨e1, e2, e3, e4⟩ := rv_len l
  obtain ⟨i, hi, q1, q2⟩ := (lay h).gap (k := l.we.length - 1 - k) (by omega) (by omega)
  have hd := (lay h).d i hi _ q1 q2
  have p1 := rv_P h (j := l.an.length - 2 - i) (by omega)
  have p2 := rv_P h (j := l.an.length - 2 - i + 1) (by omega)
  rw [show l.an.length - 1 - (l.an.length - 2 - i) = i + 1 by omega] at p1
  rw [show l.an.length - 1 - (l.an.length - 2 - i + 1) = i by omega] at p2
  have hr := (lay okr).d (l.an.length - 2 - i) (by rw [e1]; omega) (k + 1) (by omega) (by omega)
  rw [hr, hd]
  show gB (rvL l).fa (l.an.length - 2 - i) = !gB l.fa i
  rw [(rv_fa (show l.an.length - 2 - i < l.fa.length by omega)).1, show l.fa.length - 1 - (l.an.length - 2 - i) = i by omega]
theorem rv_bl {l : La} (h : OkLa l) {k : Nat} (hk : k < l.we.length) : bl (rvL l) k = bl l (l.we.length - 1 - k) ∧ bh (rvL l) k = bh l (l.we.length - 1 - k) := by
  obtain ⟨e1, e2, e3, e4⟩ := rv_len l
  unfold bl bh
  rw [e4]
  constructor
  · rw [lo_same (M := fun k => L0 l (l.we.length - 1 - k)) (fun j hj => (rv_L0 h hj).1) hk]
    exact lo_rev (fun j hj => rv_dir h hj) (L0 l) hk
  · rw [hi_same (M := fun k => H0 l (l.we.length - 1 - k)) (fun j hj => (rv_L0 h hj).2) hk]
    exact hi_rev (fun j hj => rv_dir h hj) (H0 l) hk
theorem sumW_left (w f : Nat → Int) : ∀ n, sumW w f (n + 1) = w 0 * f 0 + sumW (fun k => w (k + 1)) (fun k => f (k + 1)) n
  | 0 => by simp [sumW]
  | n + 1 => by
    have ih := sumW_left w f n
    rw [sumW, ih]
    simp only [sumW]; omega
theorem sumW_rev (w f : Nat → Int) : ∀ n, sumW (fun k => w (n - 1 - k)) (fun k => f (n - 1 - k)) n = sumW w f n
  | 0 => rfl
  | n + 1 => by
    have ih := sumW_rev w f n
    rw [sumW_left]
    have e : sumW (fun k => w (n + 1 - 1 - (k + 1))) (fun k => f (n + 1 - 1 - (k + 1))) n = sumW (fun k => w (n - 1 - k)) (fun k => f (n - 1 - k)) n := by
      have e1 : (fun k => w (n + 1 - 1 - (k + 1))) = fun k => w (n - 1 - k) := funext fun k => by rw [show n + 1 - 1 - (k + 1) = n - 1 - k by omega]
      have e2 : (fun k => f (n + 1 - 1 - (k + 1))) = fun k => f (n - 1 - k) := funext fun k => by rw [show n + 1 - 1 - (k + 1) = n - 1 - k by omega]
      rw [e1, e2]
    rw [e, ih, sumW]
    simp only [Nat.add_sub_cancel, Nat.sub_zero]; omega
theorem sumW_both {v w f g : Nat → Int} : ∀ {n : Nat}, (∀ k, k < n → v k = w k ∧ f k = g k) → sumW v f n = sumW w g n
  | 0, _ => rfl
  | n + 1, h => by rw [sumW, sumW, sumW_both (fun k hk => h k (by omega)), (h n (by omega)).1, (h n (by omega)).2]
theorem rv_sp {l : La} (h : OkLa l) : spLo (rvL l) = spLo l ∧ spHi (rvL l) = spHi l := by
  obtain ⟨e1, e2, e3, e4⟩ := rv_len l
  unfold spLo spHi
  rw [e4]
  constructor
  · rw [sumW_both (w := fun k => gI l.we (l.we.length - 1 - k)) (g := fun k => bl l (l.we.length - 1 - k)) (fun k hk => ⟨(rv_we hk).1, (rv_bl h hk).1⟩)]
    exact sumW_rev _ _ _
  · rw [sumW_both (w := fun k => gI l.we (l.we.length - 1 - k)) (g := fun k => bh l (l.we.length - 1 - k)) (fun k hk => ⟨(rv_we hk).1, (rv_bl h hk).2⟩)]
    exact sumW_rev _ _ _
theorem rv_db {l : La} (h : OkLa l) : dbB (rvL l) = dbB l := by
  obtain ⟨e1, e2, e3, e4⟩ := rv_len l
  rw [Bool.eq_iff_iff, dbB_iff, dbB_iff, e4]
  constructor
  · rintro ⟨k, hk, hb⟩
    rw [(rv_bl h hk).1, (rv_bl h hk).2] at hb
    exact ⟨l.we.length - 1 - k, by omega, hb⟩
  · rintro ⟨k, hk, hb⟩
    refine ⟨l.we.length - 1 - k, by omega, ?_⟩
    rw [(rv_bl h (show l.we.length - 1 - k < l.we.length by omega)).1, (rv_bl h (show l.we.length - 1 - k < l.we.length by omega)).2, show l.we.length - 1 - (l.we.length - 1 - k) = k by omega]
    exact hb
/-- From the last one down. -/
def rI (m k : Nat) : Int := (m : Int) - 1 - k
theorem rI_lt {m k : Nat} (h : k < m) : rI m k = ((m - 1 - k : Nat) : Int) := by unfold rI; omega
theorem rI_end (m : Nat) : ¬ 0 ≤ rI m m := by unfold rI; omega
theorem rI_next {m k : Nat} (h : k < m) (hm : m ≤ 1000) : wr .i64 (((m - 1 - k : Nat) : Int) - 1) = rI m (k + 1) := by
  rw [wr_in (by omega)]; unfold rI; omega
theorem rI_zero {m : Nat} (hm : m ≤ 1000) : wr .i64 ((m : Int) - 1) = rI m 0 := by
  rw [wr_in (by omega)]; unfold rI; omega
end Go.Proofs.Ytliamojogmlgjaa
