/- The plain law: all ways; what they cost. -/
import Derived.Test.YteamgbndnfjoaaaDoorL5
import Derived.Test.YteamgbndnfjoaaaDoorS10
import Derived.Test.YteamgbndnfjoaaaDoorMN
set_option linter.unusedSimpArgs false
set_option linter.unusedVariables false
set_option maxRecDepth 100000
namespace Go.Proofs.YteamgbndnfjoaaaDoor
open Go Go.Abs Go.Proofs

theorem ways_ind {r : Rd} (hr : OkR r) : ∀ (k : Nat) (w : W) (far pi : Nat → Int) (N m0 : Int), OkW r w N → N + 41 * k ≤ 1000000 → RC (stepsL r w.1 w.2) pi → PB pi → (∀ p, p < r.pl.toNat → netw r w p = m0) →
    ∃ (m : Nat) (x : Bool × W × (Nat → Int)), (∀ m', m ≤ m' → waysR r m' k w far = some x) ∧
      (x.1 = true → (∃ N', OkW r x.2.1 N') ∧ (∀ p, p < r.pl.toNat → netw r x.2.1 p = m0 + k) ∧ ((k = 0 ∧ x.2.2 = far ∧ x.2.1 = w) ∨ (k ≠ 0 ∧ PB (worth r x.2.2) ∧ RC (stepsL r x.2.1.1 x.2.1.2) (worth r x.2.2)))) ∧
      (x.1 = false → ∃ p, p < r.pl.toNat ∧ litP r one' r.ps.length (p : Nat) < m0 + k)
  | 0, w, far, pi, N, m0, hw, _, _, _, hnet => ⟨0, (true, w, far), fun m' _ => rfl, fun _ => ⟨⟨N, hw⟩, fun p hp => by rw [hnet p hp]; simp, .inl ⟨rfl, rfl, rfl⟩⟩, fun h => by cases h⟩
  | k + 1, w, far, pi, N, m0, hw, hN, hrc, hpb, hnet => by
    have p40 := hr.p40
    have p1 := hr.p1
    have hl := okL_steps (w := w) hr
    obtain ⟨n, q, hq, hi, hfx⟩ := find_ex hl hrc hpb ((sumF q0.far 41).toNat + 1) (inv_q0 _ pi) (by omega)
    by_cases hnev : q.far r.pl.toNat = never
    · obtain ⟨p, hp, hc⟩ := cut_ok hr hw hi hfx hnev
      refine ⟨n, (false, w, zf), fun m' hm => ?_, fun h => (by cases h), fun _ => ⟨p, hp, by rw [hc, hnet p hp]; omega⟩⟩
      obtain ⟨d, rfl⟩ := Nat.exists_eq_add_of_le hm
      rw [waysR, findR_mono hq d]
      simp only [hnev, if_true]
    · obtain ⟨hpb', hrc'⟩ := worth_ok hr hpb hi hfx hnev
      obtain ⟨t, ht⟩ := hi.tr r.pl.toNat (by omega) hnev
      obtain ⟨c, hc⟩ := ht.ch
      have hok := ch_ok hl hi hfx hc (by omega) hnev
      have hlen := ch_len hl hi hfx hc (by omega) hnev
      obtain ⟨g1, g2, g3⟩ := augment hr (c := c) (pi := worth r q.far) hw (by omega) (fun s hs => ⟨(hok s hs).1, by
        obtain ⟨e1, e2⟩ := steps_pl hr (hok s hs).1
        simp only [worth, e1, e2, if_true]
        exact (hok s hs).2.1⟩) (ch_distinct hl hi hc (by omega) hnev) hrc'
      obtain ⟨m2, x, h1, h2, h3⟩ := ways_ind hr k (takes c w) q.far (worth r q.far) (N + c.length) (m0 + 1) g1 (by push_cast at hN; omega) g2 hpb' (fun p hp => by
        rw [g3 p hp, hnet p hp, crS_chain hl hi hfx p hc (by omega) hnev, if_pos hp])
      refine ⟨n + (c.length + 1) + m2, x, fun m' hm => ?_, fun hx => ?_, fun hx => ?_⟩
      · obtain ⟨d, hd⟩ := Nat.exists_eq_add_of_le (show n ≤ m' by omega)
        obtain ⟨d2, hd2⟩ := Nat.exists_eq_add_of_le (show c.length + 1 ≤ m' by omega)
        have hf : findR (stepsL r w.1 w.2) m' q0 = some q := by rw [hd]; exact findR_mono hq d
        have hp : pathR m' r.pl q.by' w = some (true, takes c w) := by
          have := path_run (w := w) d2 hc (fun s hs => (hl.ok s (hok s hs).1).f0)
          rw [← hd2, show ((r.pl.toNat : Nat) : Int) = r.pl by omega] at this
          exact this
        rw [waysR, hf]
        simp only [hnev, if_false, hp]
        exact h1 m' (by omega)
      · obtain ⟨a1, a2, a3⟩ := h2 hx
        refine ⟨a1, fun p hp => by rw [a2 p hp]; push_cast; omega, .inr ⟨by omega, ?_⟩⟩
        rcases a3 with ⟨_, e1, e2⟩ | ⟨_, e1, e2⟩
        · rw [e1, e2]; exact ⟨hpb', g2⟩
        · exact ⟨e1, e2⟩
      · obtain ⟨p, hp, h⟩ := h3 hx
        exact ⟨p, hp, by push_cast; omega⟩
theorem zw_ok (r : Rd) : OkW r zw 0 := ⟨fun i => .inl rfl, fun i h => by simp [zw, zf] at h, fun k => by simp [zw, zf], fun k => by simp [zw, zf]⟩
theorem zw_rc {r : Rd} (hr : OkR r) : RC (stepsL r zw.1 zw.2) (fun _ => 0) := fun s hs => by
  rcases mem_steps.1 hs with ⟨k, hk, rfl⟩ | ⟨k, hk, hb, rfl⟩ | ⟨i, hi, hft, rfl⟩
  · simp
  · simp
  · have := hr.post (i := (i : Int)) (by omega) (by omega)
    have e : postS r zw.1 i = ⟨rFrom r i, rTo r i, (po r i).co, i⟩ := by simp [postS, zw, zf]
    rw [e]; simp only; omega
/-- All ways through a street: there are enough of them, or a place cannot be lit often enough. -/
theorem ways_all {r : Rd} (hr : OkR r) : ∃ (m : Nat) (x : Bool × W × (Nat → Int)), waysR r m (r.de.toNat + 1) zw zf = some x ∧
      (x.1 = true → (∃ N', OkW r x.2.1 N') ∧ (∀ p, p < r.pl.toNat → netw r x.2.1 p = r.de + 1) ∧ PB (worth r x.2.2) ∧ RC (stepsL r x.2.1.1 x.2.1.2) (worth r x.2.2)) ∧
      (x.1 = false → ∃ p, p < r.pl.toNat ∧ litP r one' r.ps.length (p : Nat) ≤ r.de) := by
  have d0 := hr.d0
  have d2 := hr.d2
  obtain ⟨m, x, h1, h2, h3⟩ := ways_ind hr (r.de.toNat + 1) zw zf (fun _ => 0) 0 0 (zw_ok r) (by push_cast; omega) (zw_rc hr) ⟨rfl, fun _ _ => Int.le_refl _, fun _ _ => by decide⟩ (fun p _ => by
    simp only [netw, zw]; rw [litP_zero]; simp [zf])
  refine ⟨m, x, h1 m (Nat.le_refl _), fun hx => ?_, fun hx => ?_⟩
  · obtain ⟨a1, a2, a3⟩ := h2 hx
    refine ⟨a1, fun p hp => by rw [a2 p hp]; push_cast; omega, ?_⟩
    rcases a3 with ⟨e, _⟩ | ⟨_, e⟩
    · omega
    · exact e
  · obtain ⟨p, hp, h⟩ := h3 hx
    exact ⟨p, hp, by push_cast at h; omega⟩

/-! ### Prices and costs -/
def dotP (l : List Int) (g : Nat → Int) : Nat → Int
  | 0 => 0
  | m + 1 => dotP l g m + (l[m]?).getD 0 * g m
/-- What the prices of the places are that the posts of a choice light. -/
def dotL (r : Rd) (l : List Int) (f : Nat → Int) : Nat → Int
  | 0 => 0
  | n + 1 => dotL r l f n + f n * litS r l n l.length
theorem dotP_add (l : List Int) (g h : Nat → Int) : ∀ m, dotP l (fun p => g p + h p) m = dotP l g m + dotP l h m
  | 0 => rfl
  | m + 1 => by simp only [dotP, dotP_add l g h m, Int.mul_add]; omega
theorem dotP_lit (r : Rd) (l : List Int) (n : Nat) (v : Int) : ∀ m, dotP l (fun p : Nat => if litB r (po r n) p then v else 0) m = v * litS r l n m
  | 0 => by simp [dotP, litS]
  | m + 1 => by
    simp only [dotP, litS, dotP_lit r l n v m]
    split
    · rw [Int.mul_add]; congr 1; exact Int.mul_comm _ _
    · simp
theorem dotP_zero (l : List Int) : ∀ m, dotP l (fun _ => 0) m = 0
  | 0 => rfl
  | m + 1 => by simp [dotP, dotP_zero l m]
theorem dot_swap (r : Rd) (l : List Int) (f : Nat → Int) : ∀ n, dotP l (fun p : Nat => litP r f n p) l.length = dotL r l f n
  | 0 => by simp only [litP, dotL]; exact dotP_zero l _
  | n + 1 => by
    have := dotP_add l (fun p : Nat => litP r f n p) (fun p : Nat => if litB r (po r n) p then f n else 0) l.length
    simp only [litP, dotL]
    rw [this, dot_swap r l f n, dotP_lit]
theorem dotP_const (l : List Int) (d : Int) : ∀ m, m ≤ l.length → dotP l (fun _ => d) m = d * (l.take m).sum
  | 0, _ => by simp [dotP]
  | m + 1, h => by
    obtain ⟨x, hx⟩ := get_of_lt (show m < l.length by omega)
    rw [dotP, dotP_const l d m (by omega), sum_take_succ hx, hx, Int.mul_add, Option.getD_some, Int.mul_comm x]
theorem dotP_le {l : List Int} (hl : ∀ x ∈ l, 0 ≤ x) {g h : Nat → Int} : ∀ m, (∀ p, p < m → g p ≤ h p) → dotP l g m ≤ dotP l h m
  | 0, _ => Int.le_refl _
  | m + 1, hg => by
    have ih := dotP_le hl m (fun p hp => hg p (by omega))
    have h0 : 0 ≤ (l[m]?).getD 0 := by
      cases hm : l[m]? with
      | none => simp
      | some x => exact hl x (List.mem_of_getElem? hm)
    have := Int.mul_le_mul_of_nonneg_left (hg m (by omega)) h0
    simp only [dotP]; omega
theorem dotP_eq {l : List Int} {g h : Nat → Int} : ∀ m, (∀ p, p < m → (l[p]?).getD 0 * g p = (l[p]?).getD 0 * h p) → dotP l g m = dotP l h m
  | 0, _ => rfl
  | m + 1, hg => by simp only [dotP, dotP_eq m (fun p hp => hg p (by omega)), hg m (by omega)]
theorem weak (r : Rd) (l : List Int) {f : Nat → Int} (hf : ∀ i, f i = 0 ∨ f i = 1) : ∀ n : Nat, dotL r l f n + bndP r l n ≤ costP r f n + (r.de + 1) * l.sum
  | 0 => by simp [dotL, bndP, costP]
  | n + 1 => by
    have ih := weak r l hf n
    simp only [dotL, bndP, costP]
    rcases hf n with h | h <;> rw [h, Int.max_def] <;> split <;> omega
theorem tightE (r : Rd) (l : List Int) {f : Nat → Int} (hf : ∀ i, f i = 0 ∨ f i = 1) : ∀ n : Nat, (∀ i : Nat, i < n → (f i = 1 → (po r i).co ≤ litS r l i l.length) ∧ (f i = 0 → litS r l i l.length ≤ (po r i).co)) → dotL r l f n + bndP r l n = costP r f n + (r.de + 1) * l.sum
  | 0, _ => by simp [dotL, bndP, costP]
  | n + 1, ht => by
    have ih := tightE r l hf n (fun i hi => ht i (by omega))
    have h2 := ht n (by omega)
    simp only [dotL, bndP, costP]
    rcases hf n with h | h
    · have := h2.2 h
      rw [h, Int.max_def]; split <;> omega
    · have := h2.1 h
      rw [h, Int.max_def]; split <;> omega
/-- No choice that holds costs less than the bound of any prices. -/
theorem weak_dual {r : Rd} {l : List Int} {f : Nat → Int} (hl : (l.length : Int) = r.pl) (hx : ∀ x ∈ l, 0 ≤ x) (hf : ∀ i, f i = 0 ∨ f i = 1) (hh : ∀ p : Nat, (p : Int) < r.pl → r.de + 1 ≤ litP r f r.ps.length p) : bndP r l r.ps.length ≤ costP r f r.ps.length := by
  have h1 := weak r l hf r.ps.length
  have h2 := dot_swap r l f r.ps.length
  have h3 := dotP_le hx (g := fun _ => r.de + 1) (h := fun p : Nat => litP r f r.ps.length p) l.length (fun p hp => hh p (by omega))
  rw [dotP_const l _ l.length (Nat.le_refl _), List.take_length, h2] at h3
  omega
end Go.Proofs.YteamgbndnfjoaaaDoor
