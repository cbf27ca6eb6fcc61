/- The plain law: what it costs to come to the ends, when no way round is worth while. -/
import Derived.Test.YteamgbndnfjoaaaDoorS7
set_option linter.unusedSimpArgs false
set_option linter.unusedVariables false
set_option maxRecDepth 100000
namespace Go.Proofs.YteamgbndnfjoaaaDoor
open Go Go.Abs Go.Proofs

/-- Steps none of which is worth while, by what the ends are worth. -/
def RC (l : List Stp) (pi : Nat → Int) : Prop := ∀ s ∈ l, pi s.to.toNat ≤ pi s.fr.toNat + s.co
/-- How many ends are reached. -/
def rcn (f : Nat → Int) : Nat → Nat
  | 0 => 0
  | m + 1 => rcn f m + if f m = never then 0 else 1
theorem rcn_ext {f g : Nat → Int} : ∀ m, (∀ i, i < m → (f i = never ↔ g i = never)) → rcn f m = rcn g m
  | 0, _ => rfl
  | m + 1, h => by simp only [rcn, rcn_ext m (fun i hi => h i (by omega)), h m (by omega)]
theorem rcn_upd {f : Nat → Int} {k : Nat} {v : Int} (hf : f k = never) (hv : v ≠ never) : ∀ m, k < m → rcn (upd f k v) m = rcn f m + 1
  | 0, h => by omega
  | m + 1, h => by
    simp only [rcn]
    by_cases e : k = m
    · subst e
      rw [rcn_ext (f := upd f k v) (g := f) k (fun i hi => by rw [upd_ne _ _ (by omega)]), upd_same, hf, if_neg hv, if_pos rfl]
    · rw [rcn_upd hf hv m (by omega), upd_ne _ _ (Ne.symm e)]; omega
theorem rcn_le (f : Nat → Int) : ∀ m, rcn f m ≤ m
  | 0 => by simp [rcn]
  | m + 1 => by have := rcn_le f m; simp only [rcn]; split <;> omega

/-- By the steps one came: a chain back to the beginning. -/
inductive Tr (by' : List (Int × Stp)) : Nat → Nat → Prop
  | zero : Tr by' 0 0
  | step {v n i : Nat} {s : Stp} (hv : v ≠ 0) (hf : fnd (v : Int) by' 0 = some (i, s)) (h : Tr by' s.fr.toNat n) : Tr by' v (n + 1)

/-- What holds while the ends' costs are found. -/
structure Inv (l : List Stp) (pi : Nat → Int) (q : FS) : Prop where
  zero : q.far 0 = 0
  low : ∀ v, v ≤ 40 → q.far v ≠ never → pi v - pi 0 ≤ q.far v
  high : ∀ v, v ≤ 40 → q.far v ≠ never → q.far v ≤ 1000000 * rcn q.far 41
  top : ∀ v, v ≤ 40 → q.far v ≤ never
  ent : ∀ v : Nat, v ≤ 40 → v ≠ 0 → q.far v ≠ never → ∃ i s, fnd (v : Int) q.by' 0 = some (i, s) ∧ s ∈ l ∧ s.to = v ∧ q.far s.fr.toNat ≠ never ∧ q.far s.fr.toNat + s.co ≤ q.far v
  tr : ∀ v : Nat, v ≤ 40 → q.far v ≠ never → ∃ n, Tr q.by' v n

theorem fnd_updB {k : Int} {s : Stp} : ∀ {es : List (Int × Stp)}, ∃ i, fnd k (updB k s es) 0 = some (i, s) := by
  intro es
  have key : ∀ (es : List (Int × Stp)) (n : Nat), (∀ i x, fnd k es n = some (i, x) → ∃ j, n ≤ i ∧ fnd k (es.set (i - n) (k, s)) n = some (j, s)) ∧ (fnd k es n = none → ∃ j, fnd k (es ++ [(k, s)]) n = some (j, s)) := by
    intro es
    induction es with
    | nil => intro n; exact ⟨fun i x h => (by cases h), fun _ => ⟨n, by simp [fnd]⟩⟩
    | cons e es ih =>
      intro n
      obtain ⟨h1, h2⟩ := ih (n + 1)
      constructor
      · intro i x h
        simp only [fnd] at h
        split at h
        · simp only [Option.some.injEq, Prod.mk.injEq] at h
          obtain ⟨rfl, _⟩ := h
          exact ⟨n, Nat.le_refl _, by simp [fnd]⟩
        · rename_i hne
          obtain ⟨j, hj, hs⟩ := h1 i x h
          refine ⟨j, by omega, ?_⟩
          rw [show i - n = (i - (n + 1)) + 1 by omega, List.set_cons_succ]
          simp only [fnd, hne, if_false]; exact hs
      · intro h
        simp only [fnd] at h
        split at h
        · cases h
        · rename_i hne
          obtain ⟨j, hj⟩ := h2 h
          exact ⟨j, by simp only [List.cons_append, fnd, hne, if_false]; exact hj⟩
  unfold updB
  split
  · rename_i i x h
    obtain ⟨j, _, hj⟩ := (key es 0).1 i x h
    exact ⟨j, by simpa using hj⟩
  · rename_i h
    exact (key es 0).2 h
theorem fnd_other {k k' : Int} {s : Stp} (hne : k' ≠ k) : ∀ {es : List (Int × Stp)}, (fnd k' (updB k s es) 0).map (·.2) = (fnd k' es 0).map (·.2) := by
  intro es
  have key : ∀ (es : List (Int × Stp)) (n : Nat), (∀ i x m, fnd k es m = some (i, x) → (fnd k' (es.set (i - m) (k, s)) n).map (·.2) = (fnd k' es n).map (·.2)) ∧ (fnd k' (es ++ [(k, s)]) n).map (·.2) = (fnd k' es n).map (·.2) := by
    intro es
    induction es with
    | nil => intro n; exact ⟨fun i x m h => (by cases h), by simp [fnd, hne]⟩
    | cons e es ih =>
      intro n
      obtain ⟨h1, h2⟩ := ih (n + 1)
      constructor
      · intro i x m h
        simp only [fnd] at h
        split at h
        · rename_i hk
          simp only [Option.some.injEq, Prod.mk.injEq] at h
          obtain ⟨rfl, _⟩ := h
          have : ¬ k' = e.1 := by rw [← hk]; exact hne
          simp [fnd, hne, this]
        · rename_i hk
          have hle : m + 1 ≤ i := by
            have : ∀ (es : List (Int × Stp)) (m i : Nat) (x : Stp), fnd k es m = some (i, x) → m ≤ i := by
              intro es
              induction es with
              | nil => intro m i x h; cases h
              | cons e es ih =>
                intro m i x h
                simp only [fnd] at h
                split at h
                · simp only [Option.some.injEq, Prod.mk.injEq] at h; omega
                · have := ih _ _ _ h; omega
            exact this _ _ _ _ h
          rw [show i - m = (i - (m + 1)) + 1 by omega, List.set_cons_succ]
          simp only [fnd]
          split
          · rfl
          · exact h1 i x (m + 1) h
      · simp only [List.cons_append, fnd]
        split
        · rfl
        · exact h2
  unfold updB
  split
  · rename_i i x h
    have := (key es 0).1 i x 0 h
    simpa using this
  · exact (key es 0).2
theorem fnd_other' {k k' : Int} {s t : Stp} {es : List (Int × Stp)} {i : Nat} (hne : k' ≠ k) (h : fnd k' es 0 = some (i, t)) : ∃ j, fnd k' (updB k s es) 0 = some (j, t) := by
  have := fnd_other (s := s) hne (es := es)
  rw [h] at this
  cases hq : fnd k' (updB k s es) 0 with
  | none => rw [hq] at this; cases this
  | some p =>
    rw [hq] at this
    simp at this
    exact ⟨p.1, by rw [← this]⟩

structure PB (pi : Nat → Int) : Prop where
  zero : pi 0 = 0
  lo : ∀ v, v ≤ 40 → 0 ≤ pi v
  hi : ∀ v, v ≤ 40 → pi v ≤ 50000000
/-- Steps that are as those of a street. -/
structure OkL (l : List Stp) : Prop where
  ok : ∀ s ∈ l, OkS s
  ne : ∀ s ∈ l, s.fr ≠ s.to
theorem upd_self (f : Nat → Int) (k : Nat) : upd f k (f k) = f := by
  funext j
  by_cases e : j = k
  · subst e; rw [upd_same]
  · rw [upd_ne _ _ e]
theorem inv_relax {l : List Stp} {pi : Nat → Int} {q : FS} {s : Stp} (hl : OkL l) (hrc : RC l pi) (hpb : PB pi) (hs : s ∈ l) (h : Inv l pi q) : Inv l pi (relax q s) := by
  by_cases hn : q.far s.fr.toNat = never
  · rw [relax_never hn]; exact h
  have ho := hl.ok s hs
  have a0 := ho.f0
  have a1 := ho.f40
  have a2 := ho.t0
  have a3 := ho.t40
  have a4 := ho.c0
  have a5 := ho.c1
  have hne := hl.ne s hs
  have hfr := h.high s.fr.toNat (by omega) hn
  have hfl := h.low s.fr.toNat (by omega) hn
  have hrl := rcn_le q.far 41
  have hz := hpb.zero
  have p1 := hpb.lo s.fr.toNat (by omega)
  have p2 := hpb.lo s.to.toNat (by omega)
  have hr := hrc s hs
  have hw : wr .i64 (q.far s.fr.toNat + s.co) = q.far s.fr.toNat + s.co := wr_id (by omega) (by omega)
  by_cases hlt : q.far s.fr.toNat + s.co < q.far s.to.toNat
  case neg =>
    have e : relax q s = q := by
      rw [relax, if_neg hn, hw]
      have hm : min (q.far s.to.toNat) (q.far s.fr.toNat + s.co) = q.far s.to.toNat := by rw [Int.min_def]; split <;> omega
      rw [hm, upd_self, if_neg (Int.lt_irrefl _)]
    rw [e]; exact h
  have e : relax q s = ⟨upd q.far s.to.toNat (q.far s.fr.toNat + s.co), updB s.to s q.by'⟩ := by
    rw [relax, if_neg hn, hw]
    have hm : min (q.far s.to.toNat) (q.far s.fr.toNat + s.co) = q.far s.fr.toNat + s.co := by rw [Int.min_def]; split <;> omega
    rw [hm, if_pos hlt]
  rw [e]
  have ht0 : s.to.toNat ≠ 0 := fun e => by
    rw [e, h.zero] at hlt
    rw [e] at hr
    omega
  have hnv : q.far s.fr.toNat + s.co ≠ never := by unfold never; omega
  have hft : s.fr.toNat ≠ s.to.toNat := by omega
  have hti : ((s.to.toNat : Nat) : Int) = s.to := by omega
  have hrcn : rcn q.far 41 ≤ rcn (upd q.far s.to.toNat (q.far s.fr.toNat + s.co)) 41 ∧ (q.far s.to.toNat = never → rcn (upd q.far s.to.toNat (q.far s.fr.toNat + s.co)) 41 = rcn q.far 41 + 1) := by
    by_cases ho : q.far s.to.toNat = never
    · have := rcn_upd ho hnv 41 (by omega)
      exact ⟨by omega, fun _ => this⟩
    · have : rcn (upd q.far s.to.toNat (q.far s.fr.toNat + s.co)) 41 = rcn q.far 41 := rcn_ext 41 (fun i _ => by
        by_cases e : i = s.to.toNat
        · subst e; rw [upd_same]; exact ⟨fun h => absurd h hnv, fun h => absurd h ho⟩
        · rw [upd_ne _ _ e])
      exact ⟨by omega, fun h => absurd h ho⟩
  have keep : ∀ (n v : Nat), Tr q.by' v n → v ≤ 40 → q.far v ≠ never → (q.far s.to.toNat = never ∨ q.far v - pi v < q.far s.to.toNat - pi s.to.toNat) → Tr (updB s.to s q.by') v n := by
    intro n
    induction n with
    | zero => intro v h _ _ _; cases h; exact .zero
    | succ n ih =>
      intro v hv hv40 hvn hg
      cases hv with
      | step hv0 hf hv =>
      rename_i i t
      have hvt : (v : Int) ≠ s.to := fun e => by
        have : v = s.to.toNat := by omega
        subst this
        rcases hg with hg | hg
        · exact hvn hg
        · omega
      obtain ⟨j, hj⟩ := fnd_other' (s := s) hvt hf
      obtain ⟨i', t', h1, h2, h3, h4, h5⟩ := h.ent v hv40 hv0 hvn
      rw [hf] at h1
      simp only [Option.some.injEq, Prod.mk.injEq] at h1
      obtain ⟨_, rfl⟩ := h1
      have ht := hl.ok t h2
      have b0 := ht.f0
      have b1 := ht.f40
      have hrt := hrc t h2
      rw [h3, Int.toNat_natCast] at hrt
      refine .step hv0 hj (ih _ hv (by omega) h4 ?_)
      rcases hg with hg | hg
      · exact .inl hg
      · exact .inr (by omega)
  obtain ⟨nf, hnf⟩ := h.tr s.fr.toNat (by omega) hn
  have hkf := keep nf s.fr.toNat hnf (by omega) hn (by
    by_cases ho : q.far s.to.toNat = never
    · exact .inl ho
    · exact .inr (by omega))
  obtain ⟨j, hj⟩ := fnd_updB (k := s.to) (s := s) (es := q.by')
  have hto : Tr (updB s.to s q.by') s.to.toNat (nf + 1) := .step ht0 (by rw [hti]; exact hj) hkf
  have re : ∀ (n v : Nat), Tr q.by' v n → ∃ m, Tr (updB s.to s q.by') v m := by
    intro n
    induction n with
    | zero => intro v h; cases h; exact ⟨0, .zero⟩
    | succ n ih =>
      intro v hv
      cases hv with
      | step hv0 hf hv =>
      by_cases e : v = s.to.toNat
      · subst e; exact ⟨_, hto⟩
      · obtain ⟨m, hm⟩ := ih _ hv
        obtain ⟨j, hj⟩ := fnd_other' (s := s) (show (v : Int) ≠ s.to by omega) hf
        exact ⟨m + 1, .step hv0 hj hm⟩
  refine ⟨?_, fun v hv hvn => ?_, fun v hv hvn => ?_, fun v hv => ?_, fun v hv hv0 hvn => ?_, fun v hv hvn => ?_⟩
  · show upd q.far _ _ 0 = 0
    rw [upd_ne _ _ (Ne.symm ht0)]; exact h.zero
  · by_cases e : v = s.to.toNat
    · subst e; simp only [upd_same]; omega
    · simp only [upd_ne _ _ e] at hvn ⊢; exact h.low v hv hvn
  · by_cases e : v = s.to.toNat
    · subst e
      simp only [upd_same]
      by_cases ho : q.far s.to.toNat = never
      · have := hrcn.2 ho; omega
      · have := h.high _ hv ho; have := hrcn.1; omega
    · simp only [upd_ne _ _ e] at hvn ⊢
      have := h.high v hv hvn; have := hrcn.1; omega
  · by_cases e : v = s.to.toNat
    · subst e; simp only [upd_same]; have := h.top _ hv; omega
    · simp only [upd_ne _ _ e]; exact h.top v hv
  · by_cases e : v = s.to.toNat
    · subst e
      refine ⟨j, s, by rw [hti]; exact hj, hs, by omega, ?_, ?_⟩
      · simp only [upd_ne _ _ hft]; exact hn
      · simp only [upd_ne _ _ hft, upd_same]; exact Int.le_refl _
    · simp only [upd_ne _ _ e] at hvn ⊢
      obtain ⟨i, t, h1, h2, h3, h4, h5⟩ := h.ent v hv hv0 hvn
      obtain ⟨j', hj'⟩ := fnd_other' (s := s) (show (v : Int) ≠ s.to by omega) h1
      refine ⟨j', t, hj', h2, h3, ?_, ?_⟩
      · by_cases e2 : t.fr.toNat = s.to.toNat
        · simp only [e2, upd_same]; exact hnv
        · simp only [upd_ne _ _ e2]; exact h4
      · by_cases e2 : t.fr.toNat = s.to.toNat
        · simp only [e2, upd_same]; rw [e2] at h5; omega
        · simp only [upd_ne _ _ e2]; exact h5
  · by_cases e : v = s.to.toNat
    · subst e; exact ⟨_, hto⟩
    · simp only [upd_ne _ _ e] at hvn
      obtain ⟨n, hn⟩ := h.tr v hv hvn
      exact re n v hn
end Go.Proofs.YteamgbndnfjoaaaDoor
