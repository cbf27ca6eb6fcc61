/- Plans with a row's signs exchanged, or with chips turned round. A plain law. -/
import Derived.Test.YtklmpopomokglaaY27
set_option linter.unusedSimpArgs false
set_option linter.unusedVariables false
namespace Go.Proofs.Ytklmpopomokglaa
open Go Go.Abs Go.Proofs
theorem mem_allL : ∀ {k : Nat} {c : Int × Int}, c ∈ allL k ↔ c = (0, 0) ∨ (0 ≤ c.1 ∧ c.1 < k ∧ (c.2 = -1 ∨ c.2 = 1))
  | 0, c => by
    simp only [allL, List.mem_singleton]
    constructor
    · exact .inl
    · rintro (h | h)
      · exact h
      · omega
  | k + 1, (a, b) => by
    simp only [allL, List.mem_append, mem_allL (k := k), List.mem_cons, List.not_mem_nil, or_false, Prod.mk.injEq]
    omega
theorem tells_of {n : Int} {rows : List (List Int)} (h : ∀ a ∈ allL n.toNat, ∀ b ∈ allL n.toNat, seenL rows a = seenL rows b → a = b) : tellsB rows n.toNat = true := by
  refine decide_eq_true ?_
  rw [List.nodup_iff_pairwise_ne, List.pairwise_map]
  refine List.Pairwise.imp_of_mem (fun {a b} ha hb hne e => hne (h a ha b hb e)) (allL_nodup n.toNat)
theorem tells_iff {n : Int} {rows rows2 : List (List Int)} (h1 : tellsB rows n.toNat = true → tellsB rows2 n.toNat = true) (h2 : tellsB rows2 n.toNat = true → tellsB rows n.toNat = true) : tellsB rows2 n.toNat = tellsB rows n.toNat := by
  rw [Bool.eq_iff_iff]; exact ⟨h2, h1⟩
/-! Signs -/
def negL (r : List Int) : List Int := r.map fun x => -x
def rowX (k i : Nat) (r : List Int) : List Int := if i = k then negL r else r
def rowsX (rows : List (List Int)) (k : Nat) : List (List Int) := rows.mapIdx (rowX k)
def negAt (k : Nat) (l : List Int) : List Int := l.mapIdx fun i x => if i = k then -x else x
theorem at_neg (r : List Int) (c : Int) : at' (negL r) c = -at' r c := by
  unfold at' negL
  rw [List.getElem?_map]
  cases r[c.toNat]? <;> simp
theorem sum_neg : ∀ r : List Int, (negL r).sum = -r.sum
  | [] => rfl
  | x :: r => by have := sum_neg r; simp only [negL, List.map_cons, List.sum_cons] at this ⊢; omega
theorem seen_X (rows : List (List Int)) (k : Nat) (c : Int × Int) : seenL (rowsX rows k) c = negAt k (seenL rows c) := by
  refine List.ext_getElem? fun i => ?_
  simp only [seenL, rowsX, negAt, List.getElem?_map, List.getElem?_mapIdx, Option.map_map]
  cases rows[i]? with
  | none => rfl
  | some r =>
    simp only [Option.map_some, Function.comp, rowX, Option.some.injEq]
    split
    · rw [at_neg, Int.mul_neg]
    · rfl
theorem negAt_two (k : Nat) (l : List Int) : negAt k (negAt k l) = l := by
  refine List.ext_getElem? fun i => ?_
  simp only [negAt, List.getElem?_mapIdx, Option.map_map]
  cases l[i]? with
  | none => rfl
  | some x =>
    simp only [Option.map_some, Function.comp, Option.some.injEq]
    split <;> omega
theorem okP_X {n : Int} {rows : List (List Int)} (hp : OkP n rows) (k : Nat) : OkP n (rowsX rows k) where
  len := by simp [rowsX]; exact hp.len
  n1 := hp.n1
  n39 := hp.n39
  eql := fun r hr => by
    obtain ⟨i, hi, rfl⟩ := List.mem_mapIdx.1 hr
    have := hp.eql rows[i] (List.getElem_mem hi)
    unfold rowX; split
    · simpa [negL] using this
    · exact this
  rng := fun r hr x hx => by
    obtain ⟨i, hi, rfl⟩ := List.mem_mapIdx.1 hr
    have := hp.rng rows[i] (List.getElem_mem hi)
    unfold rowX at hx; split at hx
    · obtain ⟨y, hy, rfl⟩ := List.mem_map.1 hx
      have := this y hy; omega
    · exact this x hx
  sum := fun r hr => by
    obtain ⟨i, hi, rfl⟩ := List.mem_mapIdx.1 hr
    have := hp.sum rows[i] (List.getElem_mem hi)
    unfold rowX; split
    · rw [sum_neg, this]; rfl
    · exact this
theorem tells_X {n : Int} {rows : List (List Int)} (k : Nat) : tellsB (rowsX rows k) n.toNat = tellsB rows n.toNat := by
  refine tells_iff (fun h => tells_of fun a ha b hb e => tells_inj h ha hb ?_) (fun h => tells_of fun a ha b hb e => tells_inj h ha hb ?_)
  · rw [seen_X, seen_X] at e
    have := congrArg (negAt k) e
    rwa [negAt_two, negAt_two] at this
  · rw [seen_X, seen_X, e]
/-! Chips turned round -/
def rotL (t : Nat) (r : List Int) : List Int := r.drop t ++ r.take t
def rowsY (rows : List (List Int)) (t : Nat) : List (List Int) := rows.map (rotL t)
theorem rot_get {r : List Int} {t m : Nat} (ht : t < r.length) (hm : m < r.length) : (rotL t r)[m]? = r[(m + t) % r.length]? := by
  unfold rotL
  by_cases h : m < r.length - t
  · rw [List.getElem?_append_left (by simp; omega), List.getElem?_drop, Nat.mod_eq_of_lt (by omega), Nat.add_comm]
  · rw [List.getElem?_append_right (by simp; omega), List.length_drop, List.getElem?_take_of_lt (by omega)]
    congr 1
    have : m + t = (m - (r.length - t)) + r.length := by omega
    rw [this, Nat.add_mod_right, Nat.mod_eq_of_lt (by omega)]
theorem okP_Y {n : Int} {rows : List (List Int)} (hp : OkP n rows) (t : Nat) : OkP n (rowsY rows t) where
  len := by simp [rowsY]; exact hp.len
  n1 := hp.n1
  n39 := hp.n39
  eql := fun r hr => by
    obtain ⟨r0, h0, rfl⟩ := List.mem_map.1 hr
    have := hp.eql r0 h0
    simp [rotL]; omega
  rng := fun r hr x hx => by
    obtain ⟨r0, h0, rfl⟩ := List.mem_map.1 hr
    refine hp.rng r0 h0 x ?_
    simp only [rotL, List.mem_append] at hx
    rcases hx with hx | hx
    · exact List.mem_of_mem_drop hx
    · exact List.mem_of_mem_take hx
  sum := fun r hr => by
    obtain ⟨r0, h0, rfl⟩ := List.mem_map.1 hr
    have := hp.sum r0 h0
    have h2 : (r0.take t ++ r0.drop t).sum = r0.sum := by rw [List.take_append_drop]
    rw [List.sum_append] at h2
    simp only [rotL, List.sum_append]; omega
/-- The case behind the turn. -/
def turnC (n : Int) (t : Nat) (c : Int × Int) : Int × Int := if c.2 = 0 then c else (((c.1.toNat + (n.toNat - t)) % n.toNat : Nat), c.2)
/-- And back. -/
def backC (n : Int) (t : Nat) (c : Int × Int) : Int × Int := if c.2 = 0 then c else (((c.1.toNat + t) % n.toNat : Nat), c.2)
theorem turn_mem {n : Int} {t : Nat} {c : Int × Int} (h1 : 1 ≤ n) (hc : c ∈ allL n.toNat) : turnC n t c ∈ allL n.toNat := by
  unfold turnC
  split
  · exact hc
  · rename_i h
    rw [mem_allL] at hc ⊢
    rcases hc with rfl | ⟨_, _, hs⟩
    · exact absurd rfl h
    · refine .inr ⟨by simp only; omega, ?_, hs⟩
      have := Nat.mod_lt (c.1.toNat + (n.toNat - t)) (show 0 < n.toNat by omega)
      simp only; omega
theorem back_mem {n : Int} {t : Nat} {c : Int × Int} (h1 : 1 ≤ n) (hc : c ∈ allL n.toNat) : backC n t c ∈ allL n.toNat := by
  unfold backC
  split
  · exact hc
  · rename_i h
    rw [mem_allL] at hc ⊢
    rcases hc with rfl | ⟨_, _, hs⟩
    · exact absurd rfl h
    · refine .inr ⟨by simp only; omega, ?_, hs⟩
      have := Nat.mod_lt (c.1.toNat + t) (show 0 < n.toNat by omega)
      simp only; omega
theorem mod_turn {a n t : Nat} (ha : a < n) (ht : t < n) : ((a + (n - t)) % n + t) % n = a ∧ ((a + t) % n + (n - t)) % n = a := by
  have h1 : a + (n - t) < n ∨ n ≤ a + (n - t) := by omega
  have h2 : a + t < n ∨ n ≤ a + t := by omega
  constructor
  · rcases h1 with h | h
    · rw [Nat.mod_eq_of_lt h, show a + (n - t) + t = a + n by omega, Nat.add_mod_right, Nat.mod_eq_of_lt ha]
    · rw [show a + (n - t) = (a - t) + n by omega, Nat.add_mod_right, Nat.mod_eq_of_lt (show a - t < n by omega), Nat.sub_add_cancel (by omega), Nat.mod_eq_of_lt ha]
  · rcases h2 with h | h
    · rw [Nat.mod_eq_of_lt h, show a + t + (n - t) = a + n by omega, Nat.add_mod_right, Nat.mod_eq_of_lt ha]
    · rw [show a + t = (a + t - n) + n by omega, Nat.add_mod_right, Nat.mod_eq_of_lt (show a + t - n < n by omega), show a + t - n + (n - t) = a by omega, Nat.mod_eq_of_lt ha]
theorem back_turn {n : Int} {t : Nat} {c : Int × Int} (ht : t < n.toNat) (hc : c ∈ allL n.toNat) : backC n t (turnC n t c) = c := by
  unfold turnC
  split
  · rename_i h; simp [backC, h]
  · rename_i h
    rw [mem_allL] at hc
    rcases hc with rfl | ⟨h0, hl, _⟩
    · exact absurd rfl h
    · simp only [backC, h, if_false]
      have := (mod_turn (a := c.1.toNat) (n := n.toNat) (t := t) (by omega) ht).1
      rw [show (((c.1.toNat + (n.toNat - t)) % n.toNat : Nat) : Int).toNat = (c.1.toNat + (n.toNat - t)) % n.toNat from Int.toNat_natCast _, this]
      refine Prod.ext ?_ rfl
      simp only; omega
theorem turn_back {n : Int} {t : Nat} {c : Int × Int} (ht : t < n.toNat) (hc : c ∈ allL n.toNat) : turnC n t (backC n t c) = c := by
  unfold backC
  split
  · rename_i h; simp [turnC, h]
  · rename_i h
    rw [mem_allL] at hc
    rcases hc with rfl | ⟨h0, hl, _⟩
    · exact absurd rfl h
    · simp only [turnC, h, if_false]
      have := (mod_turn (a := c.1.toNat) (n := n.toNat) (t := t) (by omega) ht).2
      rw [show (((c.1.toNat + t) % n.toNat : Nat) : Int).toNat = (c.1.toNat + t) % n.toNat from Int.toNat_natCast _, this]
      refine Prod.ext ?_ rfl
      simp only; omega
theorem seen_back {n : Int} {rows : List (List Int)} {t : Nat} {c : Int × Int} (hp : OkP n rows) (ht : t < n.toNat) (hc : c ∈ allL n.toNat) : seenL (rowsY rows t) c = seenL rows (backC n t c) := by
  have hn := hp.n1
  unfold seenL rowsY
  rw [List.map_map]
  refine List.map_congr_left fun r hr => ?_
  have hl := hp.eql r hr
  simp only [Function.comp]
  unfold backC
  split
  · rename_i h; rw [h, Int.zero_mul, Int.zero_mul]
  · rename_i h
    rw [mem_allL] at hc
    rcases hc with rfl | ⟨h0, hlt, _⟩
    · exact absurd rfl h
    · simp only [at']
      have hln : r.length = n.toNat := by omega
      rw [rot_get (by omega) (by omega), Int.toNat_natCast, hln]
theorem seen_turn {n : Int} {rows : List (List Int)} {t : Nat} {c : Int × Int} (hp : OkP n rows) (ht : t < n.toNat) (hc : c ∈ allL n.toNat) : seenL (rowsY rows t) (turnC n t c) = seenL rows c := by
  rw [seen_back hp ht (turn_mem hp.n1 hc), back_turn ht hc]
theorem tells_Y {n : Int} {rows : List (List Int)} {t : Nat} (hp : OkP n rows) (ht : t < n.toNat) : tellsB (rowsY rows t) n.toNat = tellsB rows n.toNat := by
  refine tells_iff (fun h => tells_of fun a ha b hb e => ?_) (fun h => tells_of fun a ha b hb e => ?_)
  · rw [seen_back hp ht ha, seen_back hp ht hb] at e
    have := tells_inj h (back_mem hp.n1 ha) (back_mem hp.n1 hb) e
    rw [← turn_back ht ha, this, turn_back ht hb]
  · rw [← seen_turn hp ht ha, ← seen_turn hp ht hb] at e
    have := tells_inj h (turn_mem hp.n1 ha) (turn_mem hp.n1 hb) e
    rw [← back_turn ht ha, this, back_turn ht hb]
end Go.Proofs.Ytklmpopomokglaa
