/- Metamers: measurements that fit, without the program. -/
import Derived.Test.YtjkpfojkkfopmaaMS
import Derived.Test.YtjkpfojkkfopmaaM14
set_option linter.unusedSimpArgs false
set_option linter.unusedVariables false
set_option maxRecDepth 100000
namespace Go.Proofs.Ytjkpfojkkfopmaa
open Go Go.Abs Go.Proofs

theorem near_iff {a b : List Int} {m : Int} (h : a.length = b.length) : nearB a b m = true ↔ ∀ j, j < a.length → gI b j - m ≤ gI a j ∧ gI a j ≤ gI b j + m := by
  constructor
  · intro hn j hj
    exact near_at hn (gI_lt hj) (gI_lt (by omega))
  · intro hall
    refine nearB_ok fun j z hj hz => ?_
    have e := zip_get (gI_lt hj) (gI_lt (l := b) (b := j) (by omega))
    rw [e] at hz
    cases hz
    have := hall j hj
    simp [farB]; omega
def offV (p : Pal) (s : Nat) (off : List Int) (i : Nat) : Int := gI (sumL p s) i + pickV ⟨-p.err, p.err⟩ off i
def offL (p : Pal) (s : Nat) (off : List Int) (n : Nat) : List Int := (List.range n).map (offV p s off)
theorem offL_succ (p : Pal) (s : Nat) (off : List Int) (n : Nat) : offL p s off (n + 1) = offL p s off n ++ [offV p s off n] := range_succ_map _ _
theorem offL_len (p : Pal) (s : Nat) (off : List Int) (n : Nat) : (offL p s off n).length = n := by simp [offL]
theorem offL_get {p : Pal} {s : Nat} {off : List Int} {n j : Nat} (h : j < n) : gI (offL p s off n) j = offV p s off j := gI_get (by simp [offL, h])
def midV (p : Pal) (a b i : Nat) : Int := gI (sumL p a) i + max (-p.err) (min p.err (gI (sumL p b) i - gI (sumL p a) i))
def midL (p : Pal) (a b n : Nat) : List Int := (List.range n).map (midV p a b)
theorem midL_succ (p : Pal) (a b n : Nat) : midL p a b (n + 1) = midL p a b n ++ [midV p a b n] := range_succ_map _ _
theorem midL_len (p : Pal) (a b n : Nat) : (midL p a b n).length = n := by simp [midL]
theorem midL_get {p : Pal} {a b n j : Nat} (h : j < n) : gI (midL p a b n) j = midV p a b j := gI_get (by simp [midL, h])
section
variable {p : Pal}
theorem fit_iff {l : List Int} (h : l.length = p.n) (t : Nat) : fitP p l t = true ↔ ∀ j, j < p.n → gI (sumL p t) j - p.err ≤ gI l j ∧ gI l j ≤ gI (sumL p t) j + p.err := by
  rw [fitP, near_iff (by rw [sumL_len, h]), h]
theorem nearP_iff (s t : Nat) : nearP p s t = true ↔ ∀ j, j < p.n → gI (sumL p t) j - 2 * p.err ≤ gI (sumL p s) j ∧ gI (sumL p s) j ≤ gI (sumL p t) j + 2 * p.err := by
  rw [nearP, near_iff (by rw [sumL_len, sumL_len]), sumL_len]
theorem off_fits (hp : OkP p) (s : Nat) (off : List Int) : fitP p (offL p s off p.n) s = true := by
  rw [fit_iff (offL_len ..)]
  intro j hj
  rw [offL_get hj, offV]
  have := pickV_in (r := ⟨-p.err, p.err⟩) (by have := hp.e0; show -p.err ≤ p.err; omega) off j
  simp only at this
  omega
theorem mid_fits (hp : OkP p) {a b : Nat} (h : nearP p a b = true) : fitP p (midL p a b p.n) a = true ∧ fitP p (midL p a b p.n) b = true := by
  rw [nearP_iff] at h
  rw [fit_iff (midL_len ..), fit_iff (midL_len ..)]
  have := hp.e0
  constructor
  · intro j hj
    rw [midL_get hj, midV]
    omega
  · intro j hj
    have := h j hj
    rw [midL_get hj, midV]
    omega
theorem two_fit {l : List Int} (h : l.length = p.n) {s t : Nat} (h1 : fitP p l s = true) (h2 : fitP p l t = true) : nearP p s t = true := by
  rw [fit_iff h] at h1 h2
  rw [nearP_iff]
  intro j hj
  have := h1 j hj
  have := h2 j hj
  omega
theorem fitN_mem {l : List Int} {n : Nat} {x : Int} : x ∈ fitN p l n ↔ ∃ t : Nat, x = t ∧ t < n ∧ fitP p l t = true := by
  simp only [fitN, List.mem_map, List.mem_filter, List.mem_range]
  constructor
  · rintro ⟨t, ⟨h1, h2⟩, rfl⟩; exact ⟨t, rfl, h1, h2⟩
  · rintro ⟨t, rfl, h1, h2⟩; exact ⟨t, ⟨h1, h2⟩, rfl⟩
theorem fitN_inc (l : List Int) (n : Nat) : (fitN p l n).Pairwise (fun x y => x < y) := by
  rw [fitN, List.pairwise_map]
  exact (List.pairwise_lt_range.filter _).imp fun h => by omega
theorem inc_at {l : List Int} (h : l.Pairwise (fun x y => x < y)) {i j : Nat} {x y : Int} (hi : l[i]? = some x) (hj : l[j]? = some y) (hij : i < j) : x < y := by
  obtain ⟨h1, e1⟩ := List.getElem?_eq_some_iff.1 hi
  obtain ⟨h2, e2⟩ := List.getElem?_eq_some_iff.1 hj
  have := List.pairwise_iff_getElem.1 h i j h1 h2 hij
  rw [e1, e2] at this; exact this
theorem inc_nodup {l : List Int} (h : l.Pairwise (fun x y => x < y)) : l.Nodup := h.imp fun h => by omega
theorem firstB_first {f : Nat → Bool} : ∀ {n k : Nat}, firstB f n = some k → ∀ j, j < k → f j = false
  | n + 1, k, h, j, hj => by
    rw [firstB] at h
    cases hf : firstB f n with
    | some q =>
      rw [hf] at h
      cases h
      exact firstB_first hf j hj
    | none =>
      rw [hf] at h
      have hk : k ≤ n := by
        by_cases hfn : f n = true
        · simp [hfn] at h; omega
        · simp [hfn] at h
      exact firstB_all hf j (by omega)
  | 0, k, h, j, hj => by simp [firstB] at h
/-- If two sets fit, there is a clash, whose first set is not greater than the first one of them. -/
theorem clash_of {l : List Int} (h : l.length = p.n) {n : Nat} (hn : n = 2 ^ p.pig.length) (h2 : 1 < (fitN p l n).length) : ∃ (s : Nat) (x : Int), cS p = some s ∧ (fitN p l n)[0]? = some x ∧ (s : Int) ≤ x := by
  subst hn
  obtain ⟨x, hx⟩ := get_of_lt (show 0 < (fitN p l (2 ^ p.pig.length)).length by omega)
  obtain ⟨y, hy⟩ := get_of_lt h2
  have hlt := inc_at (fitN_inc l _) hx hy (by decide)
  obtain ⟨t, rfl, ht, hf⟩ := fitN_mem.1 (List.mem_of_getElem? hx)
  obtain ⟨u, rfl, hu, hg⟩ := fitN_mem.1 (List.mem_of_getElem? hy)
  have hnr := two_fit h hf hg
  have hct : (cT p t).isSome = true := by
    cases hc : cT p t with
    | some _ => rfl
    | none =>
      have := firstB_all hc u hu
      rw [hnr] at this
      simp at this
      omega
  cases hs : cS p with
  | none =>
    have := firstB_all hs t ht
    rw [hct] at this; cases this
  | some s =>
    refine ⟨s, t, rfl, hx, ?_⟩
    by_cases hle : s ≤ t
    · omega
    · have := firstB_first hs t (by omega)
      rw [hct] at this; cases this
theorem cS_spec {s : Nat} (h : cS p = some s) : ∃ t, cT p s = some t ∧ s < t ∧ t < 2 ^ p.pig.length ∧ nearP p s t = true := by
  obtain ⟨hs, hc⟩ := firstB_spec h
  obtain ⟨t, ht⟩ := Option.isSome_iff_exists.1 hc
  obtain ⟨h1, h2⟩ := firstB_spec ht
  simp only [Bool.and_eq_true, decide_eq_true_eq] at h2
  exact ⟨t, ht, h2.1, h1, h2.2⟩
theorem cnt_or {a b : Int} (hab : a ≠ b) : ∀ l : List Int, (l.filter (fun x => decide (x = a) || decide (x = b))).length = l.count a + l.count b
  | [] => rfl
  | x :: l => by
    rw [List.filter_cons, List.count_cons, List.count_cons]
    by_cases h1 : x = a
    · have h2 : ¬ x = b := fun h => hab (h1.symm.trans h)
      simp [h1, cnt_or hab l, hab]; omega
    · by_cases h2 : x = b
      · simp [h2, cnt_or hab l, Ne.symm hab]; omega
      · simp [h1, h2, cnt_or hab l]
theorem cnt_two {l : List Int} (h : l.Pairwise (fun x y => x < y)) {a b : Int} (hab : a ≠ b) (ha : a ∈ l) (hb : b ∈ l) : (l.filter (fun x => decide (x = a) || decide (x = b))).length = 2 := by
  rw [cnt_or hab, (inc_nodup h).count, (inc_nodup h).count, if_pos ha, if_pos hb]
end
end Go.Proofs.Ytjkpfojkkfopmaa
