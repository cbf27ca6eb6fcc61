/- Zones: a lamp whose light at a degree is in a range, too. -/
import Derived.Test.YtliamojogmlgjaaZA
set_option linter.unusedSimpArgs false
set_option linter.unusedVariables false
set_option maxRecDepth 100000
namespace Go.Proofs.Ytliamojogmlgjaa
open Go Go.Abs Go.Proofs
/-- A list with an element more. -/
def insL {α : Type} (p : Nat) (x : α) (l : List α) : List α := l.take p ++ x :: l.drop p
theorem insL_len {α : Type} {p : Nat} {x : α} {l : List α} (h : p ≤ l.length) : (insL p x l).length = l.length + 1 := by simp [insL]; omega
theorem insL_get {α : Type} {p : Nat} {x : α} {l : List α} (h : p ≤ l.length) (i : Nat) : (insL p x l)[i]? = if i < p then l[i]? else if i = p then some x else l[i - 1]? := by
  have ht : (l.take p).length = p := by rw [List.length_take]; omega
  unfold insL
  by_cases h1 : i < p
  · rw [if_pos h1, List.getElem?_append_left (by omega), List.getElem?_take, if_pos h1]
  · rw [if_neg h1, List.getElem?_append_right (by omega), ht]
    by_cases h2 : i = p
    · subst h2; rw [if_pos rfl, Nat.sub_self]; rfl
    · rw [if_neg h2, show i - p = (i - p - 1) + 1 by omega, List.getElem?_cons_succ, List.getElem?_drop]; congr 1; omega
theorem gI_ins {p : Nat} {x : Int} {l : List Int} (h : p ≤ l.length) (i : Nat) : gI (insL p x l) i = if i < p then gI l i else if i = p then x else gI l (i - 1) := by
  simp only [gI, List.getD, insL_get h]
  split
  · rfl
  · split <;> rfl
theorem gR_ins {p : Nat} {x : Rg} {l : List Rg} (h : p ≤ l.length) (i : Nat) : gR (insL p x l) i = if i < p then gR l i else if i = p then x else gR l (i - 1) := by
  simp only [gR, List.getD, insL_get h]
  split
  · rfl
  · split <;> rfl
theorem gB_ins {p : Nat} {x : Bool} {l : List Bool} (h : p ≤ l.length) (i : Nat) : gB (insL p x l) i = if i < p then gB l i else if i = p then x else gB l (i - 1) := by
  simp only [gB, List.getD, insL_get h]
  split
  · rfl
  · split <;> rfl
theorem gR_set {l : List Rg} {a : Nat} {x : Rg} (h : a < l.length) (i : Nat) : gR (l.set a x) i = if i = a then x else gR l i := by
  simp only [gR, List.getD, List.getElem?_set]
  by_cases e : i = a
  · subst e; rw [if_pos rfl, if_pos rfl, if_pos h]; rfl
  · rw [if_neg (fun h => e h.symm), if_neg e]
/-- The lamp after a test. -/
def inter (a r : Rg) : Rg := ⟨max a.lo r.lo, min a.hi r.hi⟩
def insP (l : La) (k : Nat) : Nat := gapN l (gI l.an 0 + k) + 1
def tsA (l : La) (k : Nat) (r : Rg) : La := ⟨l.an, l.li.set (angN l k) (inter (gR l.li (angN l k)) r), l.fa, l.we⟩
def tsI (l : La) (k : Nat) (r : Rg) : La := ⟨insL (insP l k) (gI l.an 0 + k) l.an, insL (insP l k) r l.li, insL (insP l k) (gB l.fa (insP l k - 1)) l.fa, l.we⟩
def tsL (l : La) (k : Nat) (r : Rg) : La := if angN l k < l.an.length then tsA l k r else tsI l k r
def tsO (l : La) (k : Nat) (r : Rg) : Bool := if angN l k < l.an.length then decide ((inter (gR l.li (angN l k)) r).lo ≤ (inter (gR l.li (angN l k)) r).hi) else true
theorem tsL_a {l : La} {k : Nat} (h : angN l k < l.an.length) (r : Rg) : tsL l k r = tsA l k r := if_pos h
theorem tsL_i {l : La} {k : Nat} (h : ¬ angN l k < l.an.length) (r : Rg) : tsL l k r = tsI l k r := if_neg h
theorem tsO_a {l : La} {k : Nat} (h : angN l k < l.an.length) (r : Rg) : tsO l k r = decide ((inter (gR l.li (angN l k)) r).lo ≤ (inter (gR l.li (angN l k)) r).hi) := if_pos h
theorem tsO_i {l : La} {k : Nat} (h : ¬ angN l k < l.an.length) (r : Rg) : tsO l k r = true := if_neg h
theorem ts_we (l : La) (k : Nat) (r : Rg) : (tsL l k r).we = l.we := by unfold tsL; split <;> rfl
theorem ins_gap {l : La} (h : OkLa l) {k : Nat} (hk : k < l.we.length) (ha : ¬ angN l k < l.an.length) : ∃ i, i + 1 < l.an.length ∧ gI l.an i < gI l.an 0 + k ∧ gI l.an 0 + k < gI l.an (i + 1) ∧ insP l k = i + 1 := by
  have m2 := h.m2
  have hk0 : 0 < k := by
    by_cases e2 : 0 < k
    · exact e2
    · have hz : k = 0 := by omega
      subst hz
      have := ang_eq h (i := 0) (by omega)
      rw [(lay h).p0] at this
      exact absurd (by rw [this]; omega) ha
  obtain ⟨i, hi, h1, h2⟩ := (lay h).gap hk0 hk
  have hne : k ≠ P l (i + 1) := fun e2 => ha (by rw [e2, ang_eq h hi]; exact hi)
  have a := h.p (i := i) (by omega)
  have b := h.p (i := i + 1) hi
  refine ⟨i, hi, by omega, by omega, ?_⟩
  unfold insP
  rw [gap_eq h hi (by omega) (by omega)]
theorem ok_a {l : La} (h : OkLa l) {k : Nat} {r : Rg} (ha : angN l k < l.an.length) (r0 : 0 ≤ r.lo) (r2 : r.hi ≤ 200) (ho : tsO l k r = true) : OkLa (tsA l k r) := by
  have hli := h.li
  rw [tsO_a ha, decide_eq_true_eq] at ho
  refine ⟨h.m2, h.m11, h.a0, h.up, by simp [tsA, hli], h.fa, h.we, fun i hi => ?_, h.wr⟩
  have hi : i < l.an.length := hi
  have e : gR (tsA l k r).li i = if i = angN l k then inter (gR l.li (angN l k)) r else gR l.li i := gR_set (by omega) i
  rw [e]
  by_cases e2 : i = angN l k
  · rw [if_pos e2]
    have b := h.lr _ ha
    refine ⟨?_, ho, ?_⟩ <;> (simp only [inter]; omega)
  · rw [if_neg e2]; exact h.lr i hi
theorem ok_i {l : La} (h : OkLa l) (h10 : l.an.length ≤ 10) {k : Nat} (hk : k < l.we.length) {r : Rg} (ha : ¬ angN l k < l.an.length) (hr : 0 ≤ r.lo ∧ r.lo ≤ r.hi ∧ r.hi ≤ 200) : OkLa (tsI l k r) := by
  obtain ⟨i, hi, g1, g2, ep⟩ := ins_gap h hk ha
  have m2 := h.m2
  have hli := h.li
  have hfa := h.fa
  have ga := gI_ins (p := i + 1) (x := gI l.an 0 + k) (l := l.an) (by omega)
  have gr := gR_ins (p := i + 1) (x := r) (l := l.li) (by omega)
  have la : (insL (i + 1) (gI l.an 0 + ↑k) l.an).length = l.an.length + 1 := insL_len (by omega)
  have b0 := h.a0 i (by omega)
  have b1 := h.a0 (i + 1) hi
  unfold tsI
  rw [ep]
  refine ⟨?_, ?_, fun j hj => ?_, fun j hj => ?_, ?_, ?_, ?_, fun j hj => ?_, h.wr⟩
  · dsimp only; rw [la]; omega
  · dsimp only; rw [la]; omega
  · dsimp only at hj ⊢
    rw [la] at hj
    rw [ga]
    split
    · exact h.a0 j (by omega)
    · split
      · omega
      · exact h.a0 (j - 1) (by omega)
  · dsimp only at hj ⊢
    rw [la] at hj
    rw [ga, ga]
    by_cases c1 : j + 1 < i + 1
    · rw [if_pos (by omega), if_pos c1]; exact h.up j (by omega)
    · by_cases c2 : j = i
      · subst c2
        rw [if_pos (by omega), if_neg (by omega), if_pos rfl]; exact g1
      · by_cases c3 : j = i + 1
        · subst c3
          rw [if_neg (by omega), if_pos rfl, if_neg (by omega), if_neg (by omega), show i + 1 + 1 - 1 = i + 1 by omega]; exact g2
        · rw [if_neg (by omega), if_neg c3, if_neg (by omega), if_neg (by omega)]
          have := h.up (j - 1) (by omega)
          rwa [show j - 1 + 1 = j by omega] at this
  · dsimp only; rw [la, insL_len (by omega), hli]
  · dsimp only; rw [la, insL_len (by omega)]; omega
  · dsimp only
    rw [la, ga, ga, if_neg (by omega), if_neg (by omega), if_pos (by omega), show l.an.length + 1 - 1 - 1 = l.an.length - 1 by omega]; exact h.we
  · dsimp only at hj ⊢
    rw [la] at hj
    rw [gr]
    split
    · exact h.lr j (by omega)
    · split
      · exact hr
      · exact h.lr (j - 1) (by omega)
theorem ts_ok {l : La} (h : OkLa l) (h10 : l.an.length ≤ 10) {k : Nat} (hk : k < l.we.length) {r : Rg} (hr : 0 ≤ r.lo ∧ r.lo ≤ r.hi ∧ r.hi ≤ 200) (ho : tsO l k r = true) : OkLa (tsL l k r) := by
  by_cases ha : angN l k < l.an.length
  · rw [tsL_a ha]; exact ok_a h ha hr.1 hr.2.2 ho
  · rw [tsL_i ha]; exact ok_i h h10 hk ha hr
/-! ### Its lights -/
theorem mono_dir {n : Nat} {d e : Nat → Bool} (h : ∀ k, 0 < k → k < n → d k = e k) {f : Nat → Int} (hm : Mono n d f) : Mono n e f := fun k hk => by
  rw [← h (k + 1) (by omega) hk]; exact hm k hk
theorem lo_dir {n : Nat} {d e : Nat → Bool} (h : ∀ k, 0 < k → k < n → d k = e k) {L : Nat → Int} {k : Nat} (hk : k < n) : Lo n d L k = Lo n e L k := by
  have a := lo_le (mono_dir (fun k a b => (h k a b).symm) (lo_mono n e L)) (fun j _ => lo_ge n e L j) hk
  have b := lo_le (mono_dir h (lo_mono n d L)) (fun j _ => lo_ge n d L j) hk
  omega
theorem hi_dir {n : Nat} {d e : Nat → Bool} (h : ∀ k, 0 < k → k < n → d k = e k) {L : Nat → Int} {k : Nat} (hk : k < n) : Hi n d L k = Hi n e L k := by
  unfold Hi
  rw [lo_dir (fun k a b => by rw [h k a b]) hk]
theorem L0_no {l : La} (h : OkLa l) {j : Nat} (hj : ∀ i, i < l.an.length → P l i ≠ j) : L0 l j = 0 ∧ H0 l j = 200 := by
  unfold L0 L0m H0 H0m; rw [ang_no h hj, if_neg (by omega), if_neg (by omega)]; exact ⟨rfl, rfl⟩
theorem P_ins {l : La} {i k : Nat} (hi : i + 1 < l.an.length) (r : Rg) (ep : insP l k = i + 1) (j : Nat) : P (tsI l k r) j = if j < i + 1 then P l j else if j = i + 1 then k else P l (j - 1) := by
  have ga := gI_ins (p := i + 1) (x := gI l.an 0 + k) (l := l.an) (by omega)
  unfold P tsI
  rw [ep]
  dsimp only
  rw [ga, ga, if_pos (show 0 < i + 1 by omega)]
  split
  · rfl
  · split
    · omega
    · rfl
theorem L0_i {l : La} (h : OkLa l) (h10 : l.an.length ≤ 10) {k : Nat} (hk : k < l.we.length) {r : Rg} (ha : ¬ angN l k < l.an.length) (hr : 0 ≤ r.lo ∧ r.lo ≤ r.hi ∧ r.hi ≤ 200) (j : Nat) :
    L0 (tsI l k r) j = (if j = k then r.lo else L0 l j) ∧ H0 (tsI l k r) j = (if j = k then r.hi else H0 l j) := by
  obtain ⟨i, hi, g1, g2, ep⟩ := ins_gap h hk ha
  have ok := ok_i h h10 hk ha hr
  have hli := h.li
  have pp := P_ins hi r ep
  have gr : ∀ j, gR (tsI l k r).li j = if j < i + 1 then gR l.li j else if j = i + 1 then r else gR l.li (j - 1) := fun j => by
    unfold tsI; rw [ep]; exact gR_ins (by omega) j
  have la : (tsI l k r).an.length = l.an.length + 1 := by unfold tsI; rw [ep]; exact insL_len (by omega)
  have key : ∀ q, q < l.an.length + 1 → P (tsI l k r) q = j → L0 (tsI l k r) j = (gR (tsI l k r).li q).lo ∧ H0 (tsI l k r) j = (gR (tsI l k r).li q).hi := fun q hq e => by
    subst e
    exact ⟨L0_at ok (by omega), H0_at ok (by omega)⟩
  by_cases e : j = k
  · subst e
    rw [if_pos rfl, if_pos rfl]
    have := key (i + 1) (by omega) (by rw [pp, if_neg (by omega), if_pos rfl])
    rw [gr, if_neg (by omega), if_pos rfl] at this
    exact this
  · rw [if_neg e, if_neg e]
    by_cases c : angN l j < l.an.length
    · have hp := ang_at h c
      have e1 : L0 l j = (gR l.li (angN l j)).lo := by unfold L0 L0m; rw [if_pos c]
      have e2 : H0 l j = (gR l.li (angN l j)).hi := by unfold H0 H0m; rw [if_pos c]
      rw [e1, e2]
      by_cases c2 : angN l j < i + 1
      · have := key (angN l j) (by omega) (by rw [pp, if_pos c2, hp])
        rw [gr, if_pos c2] at this; exact this
      · have := key (angN l j + 1) (by omega) (by rw [pp, if_neg (by omega), if_neg (by omega), Nat.add_sub_cancel, hp])
        rw [gr, if_neg (by omega), if_neg (by omega), Nat.add_sub_cancel] at this; exact this
    · have hno : ∀ q, q < l.an.length → P l q ≠ j := fun q hq e2 => c (by rw [← e2, ang_eq h hq]; exact hq)
      have a := L0_no h hno
      have b := L0_no ok (j := j) (fun q hq => by
        rw [la] at hq
        rw [pp]
        split
        · exact hno q (by omega)
        · split
          · exact fun e3 => e e3.symm
          · exact hno (q - 1) (by omega))
      exact ⟨by rw [a.1, b.1], by rw [a.2, b.2]⟩
theorem L0_a {l : La} (h : OkLa l) {k : Nat} {r : Rg} (ha : angN l k < l.an.length) (j : Nat) :
    L0 (tsA l k r) j = (if j = k then max (L0 l k) r.lo else L0 l j) ∧ H0 (tsA l k r) j = (if j = k then min (H0 l k) r.hi else H0 l j) := by
  have hli := h.li
  have gr : ∀ i, gR (tsA l k r).li i = if i = angN l k then inter (gR l.li (angN l k)) r else gR l.li i := gR_set (by omega)
  have e0 : angN (tsA l k r) j = angN l j := rfl
  have la : (tsA l k r).an.length = l.an.length := rfl
  unfold L0 L0m H0 H0m
  rw [e0, la, gr]
  by_cases e : j = k
  · subst e
    rw [if_pos rfl, if_pos rfl, if_pos ha, if_pos ha, if_pos rfl, if_pos ha, if_pos ha]
    exact ⟨rfl, rfl⟩
  · rw [if_neg e, if_neg e]
    by_cases c : angN l j < l.an.length
    · have hne : angN l j ≠ angN l k := fun e2 => e (by have a := ang_at h c; have b := ang_at h ha; rw [e2, b] at a; exact a.symm)
      simp only [if_pos c, if_neg hne, if_neg e]; exact ⟨trivial, trivial⟩
    · simp only [if_neg c]; exact ⟨trivial, trivial⟩
theorem dir_i {l : La} (h : OkLa l) (h10 : l.an.length ≤ 10) {k : Nat} (hk : k < l.we.length) {r : Rg} (ha : ¬ angN l k < l.an.length) (hr : 0 ≤ r.lo ∧ r.lo ≤ r.hi ∧ r.hi ≤ 200) {j : Nat} (hj0 : 0 < j) (hj : j < l.we.length) : dir (tsI l k r) j = dir l j := by
  obtain ⟨i, hi, g1, g2, ep⟩ := ins_gap h hk ha
  have ok := ok_i h h10 hk ha hr
  have hfa := h.fa
  have pp := P_ins hi r ep
  have la : (tsI l k r).an.length = l.an.length + 1 := by unfold tsI; rw [ep]; exact insL_len (by omega)
  have gf : ∀ j, gB (tsI l k r).fa j = if j < i + 1 then gB l.fa j else if j = i + 1 then gB l.fa i else gB l.fa (j - 1) := fun j => by
    unfold tsI; rw [ep]; exact gB_ins (by omega) j
  obtain ⟨q, hq, q1, q2⟩ := (lay h).gap hj0 hj
  have e1 := (lay h).d q hq j q1 q2
  have a := h.p (i := i) (by omega)
  have b := h.p (i := i + 1) hi
  have key : ∀ q', q' + 1 < l.an.length + 1 → P (tsI l k r) q' < j → j ≤ P (tsI l k r) (q' + 1) → dir (tsI l k r) j = gB (tsI l k r).fa q' := fun q' h1 h2 h3 => (lay ok).d q' (by omega) j h2 h3
  rw [e1]
  show _ = gB l.fa q
  by_cases c1 : q < i
  · rw [key q (by omega) (by rw [pp, if_pos (by omega)]; exact q1) (by rw [pp, if_pos (by omega)]; exact q2), gf, if_pos (by omega)]
  · by_cases c2 : q = i
    · subst c2
      by_cases c3 : j ≤ k
      · rw [key q (by omega) (by rw [pp, if_pos (by omega)]; exact q1) (by rw [pp, if_neg (by omega), if_pos rfl]; exact c3), gf, if_pos (by omega)]
      · rw [key (q + 1) (by omega) (by rw [pp, if_neg (by omega), if_pos rfl]; omega) (by rw [pp, if_neg (by omega), if_neg (by omega), Nat.add_sub_cancel]; exact q2), gf, if_neg (by omega), if_pos rfl]
    · rw [key (q + 1) (by omega) (by
          rw [pp, if_neg (by omega)]
          split
          · omega
          · rw [Nat.add_sub_cancel]; exact q1) (by rw [pp, if_neg (by omega), if_neg (by omega), Nat.add_sub_cancel]; exact q2), gf, if_neg (by omega), if_neg (by omega), Nat.add_sub_cancel]
/-- The bounds after a test. -/
theorem ts_bl {l : La} (h : OkLa l) (h10 : l.an.length ≤ 10) {k : Nat} (hk : k < l.we.length) {r : Rg} (hr : 0 ≤ r.lo ∧ r.lo ≤ r.hi ∧ r.hi ≤ 200) {j : Nat} (hj : j < l.we.length) :
    bl (tsL l k r) j = Lo l.we.length (dir l) (upd (L0 l) k (max (L0 l k) r.lo)) j := by
  unfold bl
  rw [ts_we]
  by_cases ha : angN l k < l.an.length
  · rw [tsL_a ha]
    refine (lo_dir (fun k _ _ => rfl) hj).trans (lo_same (fun q hq => ?_) hj)
    exact (L0_a h ha q).1
  · rw [tsL_i ha]
    refine (lo_dir (fun q q0 q1 => dir_i h h10 hk ha hr q0 q1) hj).trans (lo_same (fun q hq => ?_) hj)
    rw [(L0_i h h10 hk ha hr q).1]
    have hno : ∀ q, q < l.an.length → P l q ≠ k := fun q hq e2 => ha (by rw [← e2, ang_eq h hq]; exact hq)
    unfold upd
    rw [(L0_no h hno).1]
    by_cases e : q = k
    · rw [if_pos e, if_pos e]; omega
    · rw [if_neg e, if_neg e]
theorem ts_bh {l : La} (h : OkLa l) (h10 : l.an.length ≤ 10) {k : Nat} (hk : k < l.we.length) {r : Rg} (hr : 0 ≤ r.lo ∧ r.lo ≤ r.hi ∧ r.hi ≤ 200) {j : Nat} (hj : j < l.we.length) :
    bh (tsL l k r) j = Hi l.we.length (dir l) (upd (H0 l) k (min (H0 l k) r.hi)) j := by
  unfold bh
  rw [ts_we]
  by_cases ha : angN l k < l.an.length
  · rw [tsL_a ha]
    refine (hi_dir (fun k _ _ => rfl) hj).trans (hi_same (fun q hq => ?_) hj)
    exact (L0_a h ha q).2
  · rw [tsL_i ha]
    refine (hi_dir (fun q q0 q1 => dir_i h h10 hk ha hr q0 q1) hj).trans (hi_same (fun q hq => ?_) hj)
    rw [(L0_i h h10 hk ha hr q).2]
    have hno : ∀ q, q < l.an.length → P l q ≠ k := fun q hq e2 => ha (by rw [← e2, ang_eq h hq]; exact hq)
    unfold upd
    rw [(L0_no h hno).2]
    by_cases e : q = k
    · rw [if_pos e, if_pos e]; omega
    · rw [if_neg e, if_neg e]
/-- A test narrows. -/
theorem ts_more {l : La} (h : OkLa l) (h10 : l.an.length ≤ 10) {k : Nat} (hk : k < l.we.length) {r : Rg} (hr : 0 ≤ r.lo ∧ r.lo ≤ r.hi ∧ r.hi ≤ 200) {j : Nat} (hj : j < l.we.length) : bl l j ≤ bl (tsL l k r) j ∧ bh (tsL l k r) j ≤ bh l j := by
  rw [ts_bl h h10 hk hr hj, ts_bh h h10 hk hr hj]
  refine ⟨lo_more (fun q _ => ?_) hj, hi_less (fun q _ => ?_) hj⟩ <;>
  · unfold upd
    split
    · subst_vars; omega
    · exact Int.le_refl _
/-- A lantern that is true, and in the range. -/
theorem ts_true {l : La} (h : OkLa l) (h10 : l.an.length ≤ 10) {k : Nat} (hk : k < l.we.length) {r : Rg} (hr : 0 ≤ r.lo ∧ r.lo ≤ r.hi ∧ r.hi ≤ 200) {f : Nat → Int} (hf : True' l.we.length (dir l) (L0 l) (H0 l) f) (hfr : r.lo ≤ f k ∧ f k ≤ r.hi) :
    tsO l k r = true ∧ dbB (tsL l k r) = false ∧ ∀ j, j < l.we.length → bl (tsL l k r) j ≤ f j ∧ f j ≤ bh (tsL l k r) j := by
  have a := hf.l k hk
  have b := hf.h k hk
  have key : ∀ j, j < l.we.length → bl (tsL l k r) j ≤ f j ∧ f j ≤ bh (tsL l k r) j := fun j hj => by
    rw [ts_bl h h10 hk hr hj, ts_bh h h10 hk hr hj]
    refine mono_between hf.m (fun q hq => ?_) (fun q hq => ?_) hj
    · unfold upd
      split
      · subst_vars; omega
      · exact hf.l q hq
    · unfold upd
      split
      · subst_vars; omega
      · exact hf.h q hq
  refine ⟨?_, ?_, key⟩
  · by_cases ha : angN l k < l.an.length
    · rw [tsO_a ha, decide_eq_true_eq]
      have e1 : L0 l k = (gR l.li (angN l k)).lo := by unfold L0 L0m; rw [if_pos ha]
      have e2 : H0 l k = (gR l.li (angN l k)).hi := by unfold H0 H0m; rw [if_pos ha]
      rw [e1] at a; rw [e2] at b
      simp only [inter]; omega
    · exact tsO_i ha r
  · rw [← Bool.not_eq_true, dbB_iff]
    rintro ⟨j, hj, hb⟩
    rw [ts_we] at hj
    have := key j hj
    omega
/-- A test that tells nothing new. -/
theorem ts_same {l : La} (h : OkLa l) (h10 : l.an.length ≤ 10) (hd : dbB l = false) {k : Nat} (hk : k < l.we.length) {j : Nat} (hj : j < l.we.length) : bl (tsL l k ⟨bl l k, bh l k⟩) j = bl l j ∧ bh (tsL l k ⟨bl l k, bh l k⟩) j = bh l j := by
  have a := bl_range h hk
  have b := bh_range h hk
  have c := dbB_no hd hk
  rw [ts_bl h h10 hk ⟨a.1, c, b.2⟩ hj, ts_bh h h10 hk ⟨a.1, c, b.2⟩ hj]
  refine ⟨lo_put (fun q hq => ?_) (fun q hq => ?_) hj, hi_put (fun q hq => ?_) (fun q hq => ?_) hj⟩
  · unfold upd
    split
    · subst_vars; omega
    · exact Int.le_refl _
  · unfold upd
    have g := lo_ge l.we.length (dir l) (L0 l) q
    split
    · subst_vars; dsimp only; unfold bl; omega
    · exact g
  · unfold upd
    split
    · subst_vars; omega
    · exact Int.le_refl _
  · unfold upd
    have g := hi_le l.we.length (dir l) (H0 l) q
    split
    · subst_vars; dsimp only; unfold bh; omega
    · exact g
end Go.Proofs.Ytliamojogmlgjaa
