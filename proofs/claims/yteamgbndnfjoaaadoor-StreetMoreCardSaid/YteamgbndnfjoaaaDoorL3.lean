/- The plain law: the chain of steps by which one came. -/
import Derived.Test.YteamgbndnfjoaaaDoorL2
set_option linter.unusedSimpArgs false
set_option linter.unusedVariables false
set_option maxRecDepth 100000
namespace Go.Proofs.YteamgbndnfjoaaaDoor
open Go Go.Abs Go.Proofs

/-- The steps back to the beginning, the last one first. -/
inductive Ch (es : List (Int × Stp)) : Nat → List Stp → Prop
  | zero : Ch es 0 []
  | step {v i : Nat} {s : Stp} {c : List Stp} (hv : v ≠ 0) (hf : fnd (v : Int) es 0 = some (i, s)) (h : Ch es s.fr.toNat c) : Ch es v (s :: c)
theorem Tr.ch {es : List (Int × Stp)} {v n : Nat} (h : Tr es v n) : ∃ c, Ch es v c := by
  induction h with
  | zero => exact ⟨[], .zero⟩
  | step hv hf _ ih => obtain ⟨c, hc⟩ := ih; exact ⟨_, .step hv hf hc⟩
theorem Ch.uniq {es : List (Int × Stp)} {v : Nat} {c : List Stp} (h : Ch es v c) : ∀ {c' : List Stp}, Ch es v c' → c' = c := by
  induction h with
  | zero => intro c' h'; cases h' with | zero => rfl | step hv _ _ => exact absurd rfl hv
  | step hv hf _ ih =>
    intro c' h'
    cases h' with
    | zero => exact absurd rfl hv
    | step hv' hf' h' =>
      rw [hf] at hf'
      simp only [Option.some.injEq, Prod.mk.injEq] at hf'
      obtain ⟨_, rfl⟩ := hf'
      rw [ih h']
theorem fnd_ge {k : Int} : ∀ {es : List (Int × Stp)} {n i : Nat} {x : Stp}, fnd k es n = some (i, x) → n ≤ i
  | [], n, i, x, h => by cases h
  | e :: es, n, i, x, h => by
    simp only [fnd] at h
    split at h
    · simp only [Option.some.injEq, Prod.mk.injEq] at h; omega
    · have := fnd_ge h; omega
theorem fnd_shift {k : Int} : ∀ {es : List (Int × Stp)} (n m : Nat), (fnd k es n).map (·.2) = (fnd k es m).map (·.2)
  | [], _, _ => rfl
  | e :: es, n, m => by
    simp only [fnd]
    split
    · rfl
    · exact fnd_shift _ _
theorem fnd_del {k k' : Int} (hne : k' ≠ k) {es : List (Int × Stp)} {i : Nat} {t : Stp} (h : fnd k' es 0 = some (i, t)) : ∃ j, fnd k' (delB k es) 0 = some (j, t) := by
  have key : ∀ (es : List (Int × Stp)) (n m i : Nat) (x : Stp), fnd k es m = some (i, x) → (fnd k' (es.eraseIdx (i - m)) n).map (·.2) = (fnd k' es n).map (·.2) := by
    intro es
    induction es with
    | nil => intro n m i x h; cases h
    | cons e es ih =>
      intro n m i x h
      simp only [fnd] at h
      split at h
      · rename_i hk
        simp only [Option.some.injEq, Prod.mk.injEq] at h
        obtain ⟨rfl, _⟩ := h
        have hn : ¬ k' = e.1 := by rw [← hk]; exact hne
        rw [Nat.sub_self, List.eraseIdx_cons_zero]
        simp only [fnd, hn, if_false]
        exact fnd_shift _ _
      · have hle := fnd_ge h
        rw [show i - m = (i - (m + 1)) + 1 by omega, List.eraseIdx_cons_succ]
        simp only [fnd]
        split
        · rfl
        · exact ih _ _ _ _ h
  have e : (fnd k' (delB k es) 0).map (·.2) = (fnd k' es 0).map (·.2) := by
    unfold delB
    split
    · rename_i i x hk
      have := key es 0 0 i x hk
      simpa using this
    · rfl
  rw [h] at e
  cases hq : fnd k' (delB k es) 0 with
  | none => rw [hq] at e; cases e
  | some p =>
    rw [hq] at e
    simp at e
    exact ⟨p.1, by rw [← e]⟩
theorem Ch.del {es : List (Int × Stp)} {v : Nat} : ∀ {c : List Stp} {u : Nat}, Ch es u c → (∀ c', Ch es v c' → c.length < c'.length) → Ch (delB (v : Int) es) u c
  | [], u, h, _ => by cases h; exact .zero
  | s :: c, u, h, hv => by
    have hu : u ≠ v := fun e => by subst e; exact absurd (hv _ h) (Nat.lt_irrefl _)
    cases h with
    | step hu0 hf h =>
      obtain ⟨j, hj⟩ := fnd_del (k := (v : Int)) (show (u : Int) ≠ v by omega) hf
      exact .step hu0 hj (Ch.del h (fun c' hc' => by have := hv c' hc'; simp at this; omega))
theorem Ch.tail {es : List (Int × Stp)} {v : Nat} {s : Stp} {c : List Stp} (h : Ch es v (s :: c)) : Ch (delB (v : Int) es) s.fr.toNat c := by
  have h0 := h
  cases h with
  | step hv hf h => exact h.del (fun c' hc' => by rw [h0.uniq hc']; simp)
def takes (c : List Stp) (w : W) : W := c.foldl (fun w s => takeS s w) w
theorem path_run : ∀ {c : List Stp} {es : List (Int × Stp)} {v : Nat} {w : W} (k : Nat), Ch es v c → (∀ s ∈ c, 0 ≤ s.fr) → pathR (c.length + 1 + k) v es w = some (true, takes c w)
  | [], es, v, w, k, h, _ => by
    cases h
    rw [show ([] : List Stp).length + 1 + k = k + 1 by simp; omega, pathR, if_pos (show (((0 : Nat) : Int)) = 0 from rfl)]; rfl
  | s :: c, es, v, w, k, h, hs => by
    have ht := h.tail
    have h0 := hs s (by simp)
    cases h with
    | step hv hf _ =>
      rw [show (s :: c).length + 1 + k = (c.length + 1 + k) + 1 by simp; omega, pathR, if_neg (by omega), hf]
      have := path_run (w := takeS s w) k ht (fun t ht => hs t (by simp [ht]))
      rw [show ((s.fr.toNat : Nat) : Int) = s.fr by omega] at this
      exact this
/-- The chain's steps are as they should be. -/
theorem ch_ok {l : List Stp} {pi : Nat → Int} {q : FS} (hl : OkL l) (hi : Inv l pi q) (hfx : Fix l q.far) : ∀ {c : List Stp} {v : Nat}, Ch q.by' v c → v ≤ 40 → q.far v ≠ never → ∀ s ∈ c, s ∈ l ∧ q.far s.to.toNat = q.far s.fr.toNat + s.co ∧ q.far s.fr.toNat ≠ never
  | [], v, _, _, _, s, hs => by simp at hs
  | t :: c, v, h, hv40, hvn, s, hs => by
    cases h with
    | step hv hf h =>
      obtain ⟨i, t', h1, h2, h3, h4, h5⟩ := hi.ent v hv40 hv hvn
      rw [hf] at h1
      simp only [Option.some.injEq, Prod.mk.injEq] at h1
      obtain ⟨_, rfl⟩ := h1
      have ho := hl.ok _ h2
      have b0 := ho.f0
      have b1 := ho.f40
      rcases List.mem_cons.1 hs with rfl | hs
      · refine ⟨h2, ?_, h4⟩
        have := hfx _ h2 h4
        rw [h3, Int.toNat_natCast] at this ⊢
        omega
      · exact ch_ok hl hi hfx h (by omega) h4 s hs
/-- The steps of a chain end at its end, and begin where the next one ends. -/
theorem ch_to {l : List Stp} {pi : Nat → Int} {q : FS} (hi : Inv l pi q) {v : Nat} {s : Stp} {c : List Stp} (h : Ch q.by' v (s :: c)) (hv40 : v ≤ 40) (hvn : q.far v ≠ never) : s.to = v ∧ Ch q.by' s.fr.toNat c ∧ q.far s.fr.toNat ≠ never := by
  cases h with
  | step hv hf h =>
    obtain ⟨i, t', h1, h2, h3, h4, h5⟩ := hi.ent v hv40 hv hvn
    rw [hf] at h1
    simp only [Option.some.injEq, Prod.mk.injEq] at h1
    obtain ⟨_, rfl⟩ := h1
    exact ⟨h3, h, h4⟩
/-- No two of them end at the same end. -/
theorem ch_distinct {l : List Stp} {pi : Nat → Int} {q : FS} (hl : OkL l) (hi : Inv l pi q) : ∀ {c : List Stp} {v : Nat}, Ch q.by' v c → v ≤ 40 → q.far v ≠ never → c.Pairwise (fun s t => t.to ≠ s.to)
  | [], _, _, _, _ => .nil
  | s :: c, v, h, hv40, hvn => by
    obtain ⟨h1, h2, h3⟩ := ch_to hi h hv40 hvn
    have hs : s ∈ l := by
      cases h with
      | step hv hf _ =>
        obtain ⟨i, t', e1, e2, _⟩ := hi.ent v hv40 hv hvn
        rw [hf] at e1
        simp only [Option.some.injEq, Prod.mk.injEq] at e1
        obtain ⟨_, rfl⟩ := e1
        exact e2
    have ho := hl.ok s hs
    have b0 := ho.f0
    have b1 := ho.f40
    refine List.Pairwise.cons (fun t ht e => ?_) (ch_distinct hl hi h2 (by omega) h3)
    -- a later step that ends at v has a shorter chain
    have key : ∀ {c : List Stp} {u : Nat}, Ch q.by' u c → u ≤ 40 → q.far u ≠ never → ∀ t ∈ c, ∃ c', Ch q.by' t.to.toNat c' ∧ c'.length ≤ c.length := by
      intro c
      induction c with
      | nil => intro u _ _ _ t ht; simp at ht
      | cons x c ih =>
        intro u hu hu40 hun t ht
        obtain ⟨g1, g2, g3⟩ := ch_to hi hu hu40 hun
        rcases List.mem_cons.1 ht with rfl | ht
        · exact ⟨_, by rw [g1, Int.toNat_natCast]; exact hu, Nat.le_refl _⟩
        · have hx : x ∈ l := by
            cases hu with
            | step hv hf _ =>
              obtain ⟨i, t', e1, e2, _⟩ := hi.ent u hu40 hv hun
              rw [hf] at e1
              simp only [Option.some.injEq, Prod.mk.injEq] at e1
              obtain ⟨_, rfl⟩ := e1
              exact e2
          have hox := hl.ok x hx
          have c0 := hox.f0
          have c1 := hox.f40
          obtain ⟨c', h1, h2⟩ := ih g2 (by omega) g3 t ht
          exact ⟨c', h1, by simp; omega⟩
    obtain ⟨c', g1, g2⟩ := key h2 (by omega) h3 t ht
    rw [e, h1, Int.toNat_natCast] at g1
    have := h.uniq g1
    subst this
    simp at g2
    omega
end Go.Proofs.YteamgbndnfjoaaaDoor
