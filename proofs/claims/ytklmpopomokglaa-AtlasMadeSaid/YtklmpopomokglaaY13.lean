/- A plan that tells all: its bounds. A plain law. -/
import Derived.Test.YtklmpopomokglaaY27
import Derived.Test.YtklmpopomokglaaY1
import Derived.Test.YtklmpopomokglaaMP
set_option linter.unusedSimpArgs false
set_option linter.unusedVariables false
namespace Go.Proofs.Ytklmpopomokglaa
open Go Go.Abs Go.Proofs
theorem sum_all (r : List Int) : ∀ k : Nat, k ≤ r.length → ((allL k).map (fun c => (c.2 * at' r c.1).natAbs)).sum = 2 * ((r.take k).map Int.natAbs).sum
  | 0, _ => by simp [allL]
  | k + 1, h => by
    have ih := sum_all r k (by omega)
    obtain ⟨x, hx⟩ := get_of_lt (show k < r.length by omega)
    have ha : at' r (k : Int) = x := by simp [at', hx]
    rw [allL, List.map_append, List.sum_append, ih, take_succ_eq hx, List.map_append, List.sum_append]
    simp only [List.map_cons, List.map_nil, List.sum_cons, List.sum_nil, ha]
    omega
theorem enc_inj {a b : List Int} (ha : ∀ x ∈ a, -1 ≤ x ∧ x ≤ 1) (hb : ∀ x ∈ b, -1 ≤ x ∧ x ≤ 1) (hl : a.length = b.length) (h : encT a = encT b) : a = b := by
  rw [← digs_enc a ha, ← digs_enc b hb, h, hl]
theorem codes_nodup {n : Int} {rows : List (List Int)} (hp : OkP n rows) (ht : tellsB rows n.toNat = true) : ((allL n.toNat).map (fun c => encT (seenL rows c))).Nodup := by
  have hnd : ((allL n.toNat).map (seenL rows)).Nodup := of_decide_eq_true ht
  rw [List.nodup_iff_pairwise_ne, List.pairwise_map] at hnd ⊢
  refine List.Pairwise.imp_of_mem (fun {a b} ha hb h e => h ?_) hnd
  exact enc_inj (seenL_rng' hp (okC_all hp ha)) (seenL_rng' hp (okC_all hp hb)) (by simp [seenL]) e
theorem tells_many {n : Int} {rows : List (List Int)} (hp : OkP n rows) (ht : tellsB rows n.toNat = true) : 2 * n.toNat + 1 ≤ 3 ^ rows.length := by
  have h := nodup_lt (3 ^ rows.length) _ (codes_nodup hp ht) (fun x hx => by
    obtain ⟨c, hc, rfl⟩ := List.mem_map.1 hx
    have := enc_lt (seenL rows c) (seenL_rng' hp (okC_all hp hc))
    rwa [seen_len] at this)
  rwa [List.length_map, allL_len] at h
theorem tells_odd {n : Int} {rows : List (List Int)} (hp : OkP n rows) (ht : tellsB rows n.toNat = true) (h1 : 1 ≤ rows.length) (h3 : rows.length ≤ 3) : 2 * n.toNat + 1 ≠ 3 ^ rows.length := by
  intro he
  rcases rows with _ | ⟨r, rest⟩
  · simp at h1
  let f : Nat → Nat := fun m => ((digs (r :: rest).length m).headD 0).natAbs
  have hs := nodup_sum f (3 ^ (r :: rest).length) _ (codes_nodup hp ht) (fun x hx => by
    obtain ⟨c, hc, rfl⟩ := List.mem_map.1 hx
    have := enc_lt (seenL (r :: rest) c) (seenL_rng' hp (okC_all hp hc))
    rwa [seen_len] at this) (by rw [List.length_map, allL_len, he])
  have e1 : ((allL n.toNat).map (fun c => encT (seenL (r :: rest) c))).map f = (allL n.toNat).map (fun c => (c.2 * at' r c.1).natAbs) := by
    rw [List.map_map]
    refine List.map_congr_left fun c hc => ?_
    have := digs_enc (seenL (r :: rest) c) (seenL_rng' hp (okC_all hp hc))
    rw [seen_len] at this
    simp only [Function.comp, f, this]
    rfl
  have hrl := hp.eql r (by simp)
  have hn := hp.n1
  rw [e1, sum_all r n.toNat (by omega), List.take_of_length_le (by omega)] at hs
  have hz := hp.sum r (by simp)
  have hpar := abs_par r
  rw [hz] at hpar
  have hf : ∀ k, 1 ≤ k → k ≤ 3 → ((List.range (3 ^ k)).map (fun m => ((digs k m).headD 0).natAbs)).sum % 4 = 2 := by
    intro k h1 h3
    have : k = 1 ∨ k = 2 ∨ k = 3 := by omega
    rcases this with rfl | rfl | rfl <;> decide
  have := hf (r :: rest).length h1 h3
  rw [← hs] at this
  omega
theorem tells_three {n : Int} {rows : List (List Int)} (hp : OkP n rows) (ht : tellsB rows n.toNat = true) : 3 ≤ n := by
  have h1 := hp.n1
  refine Classical.byContradiction fun h3 => ?_
  have hn : n = 1 ∨ n = 2 := by omega
  rcases hn with rfl | rfl
  · have := tells_inj ht (a := (0, 0)) (b := (0, 1)) (by decide) (by decide) (by
      simp only [seenL]
      refine List.map_congr_left fun r hr => ?_
      have hl := hp.eql r hr
      have hs := hp.sum r hr
      rcases r with _ | ⟨x, _ | ⟨y, r⟩⟩
      · simp at hl
      · simp at hs; subst hs; rfl
      · simp at hl; omega)
    simp at this
  · have := tells_inj ht (a := (1, -1)) (b := (0, 1)) (by decide) (by decide) (by
      simp only [seenL]
      refine List.map_congr_left fun r hr => ?_
      have hl := hp.eql r hr
      have hs := hp.sum r hr
      rcases r with _ | ⟨x, _ | ⟨y, _ | ⟨z, r⟩⟩⟩
      · simp at hl
      · simp at hl
      · simp at hs
        have : y = -x := by omega
        subst this
        simp [at']
      · simp at hl; omega)
    simp at this
/-- The bounds, as the law has them. -/
theorem tells_bound {n : Int} {rows : List (List Int)} (hp : OkP n rows) (ht : tellsB rows n.toNat = true) : ¬ mostV rows.length < n ∧ 3 ≤ n ∧ ¬ ((rows.length : Int) < fewV n) := by
  have h4 := hp.len
  have h39 := hp.n39
  have h3 := tells_three hp ht
  have hm := tells_many hp ht
  have ho := tells_odd hp ht
  have hlen : rows.length = 0 ∨ rows.length = 1 ∨ rows.length = 2 ∨ rows.length = 3 ∨ rows.length = 4 := by omega
  unfold mostV fewV
  rcases hlen with h | h | h | h | h <;> rw [h] at hm ho ⊢ <;> simp at hm ho ⊢
  · omega
  · omega
  · have hn3 : n = 3 := by omega
    subst hn3; decide
  · refine ⟨by omega, h3, ?_⟩
    rw [if_neg (by omega)]
    split
    · omega
    · rw [if_pos (by omega)]; omega
  · refine ⟨by omega, h3, ?_⟩
    rw [if_neg (by omega)]
    split
    · omega
    · split <;> omega
end Go.Proofs.Ytklmpopomokglaa
