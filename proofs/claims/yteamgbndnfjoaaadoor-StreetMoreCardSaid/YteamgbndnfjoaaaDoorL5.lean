/- The plain law: way after way. -/
import Derived.Test.YteamgbndnfjoaaaDoorL4
set_option linter.unusedSimpArgs false
set_option linter.unusedVariables false
set_option maxRecDepth 100000
namespace Go.Proofs.YteamgbndnfjoaaaDoor
open Go Go.Abs Go.Proofs

def crS (c : List Stp) (p : Nat) : Int := (c.map (fun s => cr s p)).sum
theorem augment {r : Rd} {pi : Nat → Int} (hr : OkR r) : ∀ {c : List Stp} {w : W} {N : Int}, OkW r w N → N + c.length ≤ 1000000 → (∀ s ∈ c, s ∈ stepsL r w.1 w.2 ∧ pi s.to.toNat = pi s.fr.toNat + s.co) → c.Pairwise (fun s t => t.to ≠ s.to) → RC (stepsL r w.1 w.2) pi →
    OkW r (takes c w) (N + c.length) ∧ RC (stepsL r (takes c w).1 (takes c w).2) pi ∧ ∀ p, p < r.pl.toNat → netw r (takes c w) p = netw r w p + crS c p
  | [], w, N, hw, _, _, _, hrc => ⟨by simpa [takes] using hw, hrc, fun p _ => by simp [takes, crS]⟩
  | s :: c, w, N, hw, hN, hs, hd, hrc => by
    rw [List.pairwise_cons] at hd
    rw [List.length_cons] at hN
    obtain ⟨h1, h2, h3, h4⟩ := step_take hr hw (by omega) (hs s (by simp)).1 hrc (hs s (by simp)).2
    obtain ⟨g1, g2, g3⟩ := augment hr (c := c) h1 (by omega) (fun t ht => ⟨h4 t (hs t (by simp [ht])).1 (hd.1 t ht), (hs t (by simp [ht])).2⟩) hd.2 h2
    refine ⟨?_, g2, fun p hp => ?_⟩
    · have : N + ((s :: c).length : Int) = N + 1 + c.length := by simp; omega
      rw [this]; exact g1
    · have := g3 p hp
      have h5 := h3 p hp
      show netw r (takes c (takeS s w)) p = _
      rw [this, h5]
      simp only [crS, List.map_cons, List.sum_cons]; omega
theorem crS_chain {l : List Stp} {pi : Nat → Int} {q : FS} (hl : OkL l) (hi : Inv l pi q) (hfx : Fix l q.far) (p : Nat) : ∀ {c : List Stp} {v : Nat}, Ch q.by' v c → v ≤ 40 → q.far v ≠ never → crS c p = if p < v then 1 else 0
  | [], v, h, _, _ => by cases h; simp [crS]
  | s :: c, v, h, hv, hvn => by
    obtain ⟨h1, h2, h3⟩ := ch_to hi h hv hvn
    have hs := (ch_ok hl hi hfx h hv hvn s (by simp)).1
    have ho := hl.ok s hs
    have b0 := ho.f0
    have b1 := ho.f40
    have ih := crS_chain hl hi hfx p h2 (by omega) h3
    simp only [crS, List.map_cons, List.sum_cons] at ih ⊢
    rw [ih]
    simp only [cr, h1]
    have e1 : ((p : Int) < (v : Int)) ↔ p < v := by omega
    have e2 : ((p : Int) < s.fr) ↔ p < s.fr.toNat := by omega
    simp only [e1, e2]
    omega
theorem ch_len {l : List Stp} {pi : Nat → Int} {q : FS} (hl : OkL l) (hi : Inv l pi q) (hfx : Fix l q.far) {c : List Stp} {v : Nat} (h : Ch q.by' v c) (hv : v ≤ 40) (hvn : q.far v ≠ never) : c.length ≤ 41 := by
  have hd := ch_distinct hl hi h hv hvn
  have hok := ch_ok hl hi hfx h hv hvn
  have hnd : (c.map (fun s => s.to.toNat)).Nodup := by
    rw [List.nodup_iff_pairwise_ne, List.pairwise_map]
    refine hd.imp_of_mem (fun {a b} ha hb hne e => hne ?_)
    have h1 := (hl.ok a (hok a ha).1).t0
    have h2 := (hl.ok b (hok b hb).1).t0
    omega
  have := hnd.length_le_of_subset (l₂ := List.range 41) (fun x hx => by
    obtain ⟨s, hs, rfl⟩ := List.mem_map.1 hx
    have h1 := (hl.ok s (hok s hs).1).t0
    have h2 := (hl.ok s (hok s hs).1).t40
    simp; omega)
  simpa using this
theorem steps_pl {r : Rd} {w : W} (hr : OkR r) {s : Stp} (hs : s ∈ stepsL r w.1 w.2) : s.fr.toNat ≤ r.pl.toNat ∧ s.to.toNat ≤ r.pl.toNat := by
  have p1 := hr.p1
  rcases mem_steps.1 hs with ⟨k, hk, rfl⟩ | ⟨k, hk, _, rfl⟩ | ⟨i, hi, hft, rfl⟩
  · refine ⟨?_, ?_⟩ <;> simp only [] <;> omega
  · refine ⟨?_, ?_⟩ <;> simp only [] <;> omega
  · have := hr.post (i := (i : Int)) (by omega) (by omega)
    have := hr.i0
    simp only [postS]
    split
    · simp only [rFrom, rTo] at hft ⊢; omega
    · simp only [rFrom, rTo] at hft ⊢; omega
/-- What the ends are worth, out of what they cost. -/
def worth (r : Rd) (f : Nat → Int) : Nat → Int := fun v => if v ≤ r.pl.toNat then f v else 0
theorem reach_down {r : Rd} {w : W} {pi : Nat → Int} {q : FS} (hr : OkR r) (hi : Inv (stepsL r w.1 w.2) pi q) (hfx : Fix (stepsL r w.1 w.2) q.far) {v : Nat} (hv : v < r.pl.toNat) (h : q.far (v + 1) ≠ never) : q.far v ≠ never := by
  have p40 := hr.p40
  have hs : (⟨(v : Int) + 1, v, 0, -1⟩ : Stp) ∈ stepsL r w.1 w.2 := mem_steps.2 (.inl ⟨v, hv, rfl⟩)
  have e : ((v : Int) + 1).toNat = v + 1 := by omega
  have := hfx _ hs (by simpa only [e] using h)
  simp only [e, Int.toNat_natCast] at this
  have hh := hi.high (v + 1) (by omega) h
  have := rcn_le q.far 41
  have hlt : q.far v < never := by unfold never; omega
  intro hn
  omega
theorem reach_le {r : Rd} {w : W} {pi : Nat → Int} {q : FS} (hr : OkR r) (hi : Inv (stepsL r w.1 w.2) pi q) (hfx : Fix (stepsL r w.1 w.2) q.far) {v : Nat} (hv : v ≤ r.pl.toNat) (h : q.far v ≠ never) : ∀ u, u ≤ v → q.far u ≠ never := by
  intro u hu
  induction v with
  | zero => have : u = 0 := by omega
            subst this; exact h
  | succ v ih =>
    by_cases e : u = v + 1
    · subst e; exact h
    · exact ih (by omega) (reach_down hr hi hfx (by omega) h) (by omega)
theorem worth_ok {r : Rd} {w : W} {pi : Nat → Int} {q : FS} (hr : OkR r) (hpb : PB pi) (hi : Inv (stepsL r w.1 w.2) pi q) (hfx : Fix (stepsL r w.1 w.2) q.far) (h : q.far r.pl.toNat ≠ never) : PB (worth r q.far) ∧ RC (stepsL r w.1 w.2) (worth r q.far) := by
  have p40 := hr.p40
  have hall := reach_le hr hi hfx (Nat.le_refl _) h
  have hrl := rcn_le q.far 41
  refine ⟨⟨by simp [worth, hi.zero], fun v hv => ?_, fun v hv => ?_⟩, fun s hs => ?_⟩
  · simp only [worth]; split
    · exact hi.nonneg hpb hv
    · omega
  · simp only [worth]; split
    · rename_i h2
      have := hi.high v hv (hall v h2)
      omega
    · omega
  · obtain ⟨h1, h2⟩ := steps_pl hr hs
    simp only [worth, h1, h2, if_true]
    exact hfx s hs (hall _ h1)
/-- Both places of all posts. -/
def one' : Nat → Int := fun _ => 1
theorem litP_eq {r : Rd} {f g : Nat → Int} (p : Int) : ∀ m : Nat, (∀ i : Nat, i < m → litB r (po r i) p = true → f i = g i) → litP r f m p = litP r g m p
  | 0, _ => rfl
  | m + 1, h => by
    simp only [litP, litP_eq p m (fun i hi => h i (by omega))]
    by_cases hb : litB r (po r m) p = true
    · rw [if_pos hb, if_pos hb, h m (by omega) hb]
    · rw [if_neg hb, if_neg hb]
/-- A place that cannot be lit once more. -/
theorem cut_ok {r : Rd} {w : W} {pi : Nat → Int} {q : FS} {N : Int} (hr : OkR r) (hw : OkW r w N) (hi : Inv (stepsL r w.1 w.2) pi q) (hfx : Fix (stepsL r w.1 w.2) q.far) (h : q.far r.pl.toNat = never) : ∃ p, p < r.pl.toNat ∧ litP r one' r.ps.length (p : Nat) = netw r w p := by
  have p40 := hr.p40
  have p1 := hr.p1
  obtain ⟨c, hc, hc1, hc2⟩ : ∃ c, c < r.pl.toNat ∧ q.far c ≠ never ∧ q.far (c + 1) = never := by
    have key : ∀ n, q.far n = never → ∃ c, c < n ∧ q.far c ≠ never ∧ q.far (c + 1) = never := by
      intro n
      induction n with
      | zero => intro hn; rw [hi.zero] at hn; exact absurd hn (by decide)
      | succ n ih =>
        intro hn
        by_cases e : q.far n = never
        · obtain ⟨c, h1, h2⟩ := ih e; exact ⟨c, by omega, h2⟩
        · exact ⟨n, by omega, e, hn⟩
    exact key _ h
  have hfin : ∀ s ∈ stepsL r w.1 w.2, q.far s.fr.toNat ≠ never → q.far s.to.toNat ≠ never := fun s hs hn => by
    have h1 := hfx s hs hn
    have ho := steps_ok hr s hs
    have f0 := ho.f0; have f40 := ho.f40; have c1 := ho.c1
    have := hi.high _ (by omega) hn
    have := rcn_le q.far 41
    intro e; rw [e] at h1; unfold never at h1; omega
  have hb : w.2 c = 0 := by
    have := hw.b0 c
    by_cases h0 : 0 < w.2 c
    · have hs : (⟨c, (c : Int) + 1, 0, -1⟩ : Stp) ∈ stepsL r w.1 w.2 := mem_steps.2 (.inr (.inl ⟨c, hc, h0, rfl⟩))
      have e : ((c : Int) + 1).toNat = c + 1 := by omega
      have := hfin _ hs (by simpa using hc1)
      rw [show ((⟨c, (c : Int) + 1, 0, -1⟩ : Stp)).to.toNat = c + 1 from e] at this
      exact absurd hc2 this
    · omega
  refine ⟨c, hc, ?_⟩
  rw [netw, hb, Int.sub_zero]
  refine litP_eq _ _ (fun i hi' hl => ?_)
  rcases hw.st i with h0 | h1
  · exfalso
    have hlb := (litB_iff r i c).1 hl
    have hft : rFrom r i < rTo r i := by omega
    have hs : postS r w.1 i ∈ stepsL r w.1 w.2 := mem_steps.2 (.inr (.inr ⟨i, hi', hft, rfl⟩))
    have e : postS r w.1 i = ⟨rFrom r i, rTo r i, (po r i).co, i⟩ := by simp [postS, h0]
    have hpl := steps_pl hr hs
    rw [e] at hs hpl
    have ho := steps_ok hr _ hs
    have f0 := ho.f0
    simp only at hpl f0
    have hfr := reach_le hr hi hfx (Nat.le_of_lt hc) hc1 (rFrom r i).toNat (by omega)
    have hto := hfin _ hs hfr
    exact absurd hc2 (reach_le hr hi hfx hpl.2 hto (c + 1) (by omega))
  · rw [h1]; rfl
end Go.Proofs.YteamgbndnfjoaaaDoor
