/- Metamers: narrower ranges. -/
import Derived.Test.YtjkpfojkkfopmaaM21
set_option linter.unusedSimpArgs false
set_option linter.unusedVariables false
set_option maxRecDepth 100000
namespace Go.Proofs.Ytjkpfojkkfopmaa
open Go Go.Abs Go.Proofs

def narL (x y : Tr) (b : Nat) : Rg := ⟨min (x.l b) (y.l b), max (x.l b) (y.l b)⟩
def narE (x y : Tr) (i b : Nat) : Rg := ⟨min (x.e i b) (y.e i b), max (x.e i b) (y.e i b)⟩
def narN (x y : Tr) (i n : Nat) : List Rg := (List.range n).map (narE x y i)
def narM (x y : Tr) (n : Nat) : List Rg := (List.range n).map (narL x y)
def narC (n : Nat) (x y : Tr) : Cs := ⟨(List.range 3).map (fun i => narN x y i n), narM x y n⟩
theorem narM_succ (x y : Tr) (n : Nat) : narM x y (n + 1) = narM x y n ++ [narL x y n] := range_succ_map _ _
theorem narN_succ (x y : Tr) (i n : Nat) : narN x y i (n + 1) = narN x y i n ++ [narE x y i n] := range_succ_map _ _
theorem narM_len (x y : Tr) (n : Nat) : (narM x y n).length = n := by simp [narM]
theorem narN_len (x y : Tr) (i n : Nat) : (narN x y i n).length = n := by simp [narN]
def narEs (x y : Tr) (n k : Nat) : List (List D) := (List.range k).map (fun i => rowR (narN x y i n))
theorem narEs_succ (x y : Tr) (n k : Nat) : narEs x y n (k + 1) = narEs x y n k ++ [rowR (narN x y k n)] := range_succ_map _ _
theorem narEs_len (x y : Tr) (n k : Nat) : (narEs x y n k).length = k := by simp [narEs]
theorem narEs_one (x y : Tr) (n k : Nat) : (narEs x y n k).all (fun r => r.length == 1) = true := by simp [narEs, rowR]
theorem nar_l {n b : Nat} {x y : Tr} (h : b < n) : (narC n x y).l b = narL x y b := by
  rw [Cs.l, getD_of (x := narL x y b)]
  simp [narC, narM, h]
theorem nar_e {n i b : Nat} {x y : Tr} (hi : i < 3) (h : b < n) : (narC n x y).e i b = narE x y i b := by
  have h1 : (narC n x y).eye[i]? = some (narN x y i n) := by simp [narC, hi]
  rw [Cs.e, getD_of h1, getD_of (x := narE x y i b)]
  simp [narN, h]
theorem nar_ok {c : Cs} {x y : Tr} (hc : OkC c) (hx : OkT c x) (hy : OkT c y) : OkC (narC c.lamp.length x y) where
  n1 := by simp [narC, narM_len]; exact hc.n1
  n8 := by simp [narC, narM_len]; exact hc.n8
  e3 := by simp [narC]
  er := fun r hr => by
    simp only [narC, List.mem_map] at hr
    obtain ⟨i, _, rfl⟩ := hr
    simp [narN_len, narC, narM_len]
  lr := fun r hr => by
    simp only [narC, narM, List.mem_map, List.mem_range] at hr
    obtain ⟨b, hb, rfl⟩ := hr
    have h1 := hx.bl b hb
    have h2 := hy.bl b hb
    have h3 := hc.bl b
    rw [rgOk_iff]
    simp only [narL]
    omega
  rr := fun l hl r hr => by
    simp only [narC, List.mem_map, List.mem_range] at hl
    obtain ⟨i, hi, rfl⟩ := hl
    simp only [narN, List.mem_map, List.mem_range] at hr
    obtain ⟨b, hb, rfl⟩ := hr
    have h1 := hx.be i b hi hb
    have h2 := hy.be i b hi hb
    have h3 := hc.be i b
    rw [rgOk_iff]
    simp only [narE]
    omega
theorem nar_len (n : Nat) (x y : Tr) : (narC n x y).lamp.length = n := by simp [narC, narM_len]
theorem nar_between {c : Cs} {x y : Tr} (hc : OkC c) (hx : OkT c x) (hy : OkT c y) {i b : Nat} (hi : i < 3) (hb : b < c.lamp.length) : pL c i b ≤ pL (narC c.lamp.length x y) i b ∧ pL (narC c.lamp.length x y) i b ≤ pH (narC c.lamp.length x y) i b ∧ pH (narC c.lamp.length x y) i b ≤ pH c i b := by
  have h1 := hx.be i b hi hb
  have h2 := hy.be i b hi hb
  have h3 := hc.be i b
  have h4 := hx.bl b hb
  have h5 := hy.bl b hb
  have h6 := hc.bl b
  simp only [pL, pH, nar_l hb, nar_e hi hb, narL, narE]
  exact ⟨Int.mul_le_mul (by omega) (by omega) (by omega) (by omega), Int.mul_le_mul (by omega) (by omega) (by omega) (by omega), Int.mul_le_mul (by omega) (by omega) (by omega) (by omega)⟩
theorem mm3 {a p q b y : Int} (h1 : a ≤ p) (h2 : p ≤ q) (h3 : q ≤ b) : min (a * y) (b * y) ≤ min (p * y) (q * y) ∧ min (p * y) (q * y) ≤ max (p * y) (q * y) ∧ max (p * y) (q * y) ≤ max (a * y) (b * y) := by
  have e1 := mm (y := y) h1 (show p ≤ b by omega)
  have e2 := mm (y := y) (show a ≤ q by omega) h3
  rw [Int.mul_comm y] at e1 e2
  omega
theorem nar_span {c : Cs} {x y : Tr} {l : List Int} (hc : OkC c) (hx : OkT c x) (hy : OkT c y) (hn : l.length = c.lamp.length) {k : Nat} (hk : k < 3) : spLo c l k l.length ≤ spLo (narC c.lamp.length x y) l k l.length ∧ spLo (narC c.lamp.length x y) l k l.length ≤ spHi (narC c.lamp.length x y) l k l.length ∧ spHi (narC c.lamp.length x y) l k l.length ≤ spHi c l k l.length := by
  have key := fun b (hb : b < l.length) => by
    have h := nar_between hc hx hy hk (show b < c.lamp.length by omega)
    exact mm3 (y := gI l b) h.1 h.2.1 h.2.2
  exact ⟨sumF_mono (fun b hb => (key b hb).1), sumF_mono (fun b hb => (key b hb).2.1), sumF_mono (fun b hb => (key b hb).2.2)⟩
theorem spansL_get (c : Cs) (l : List Int) {k : Nat} (hk : k < 3) : (spansL c l)[k]? = some ⟨spLo c l k l.length, spHi c l k l.length⟩ := by
  have : k = 0 ∨ k = 1 ∨ k = 2 := by omega
  rcases this with rfl | rfl | rfl <;> rfl
theorem nar_inside {c : Cs} {x y : Tr} {l : List Int} (hc : OkC c) (hx : OkT c x) (hy : OkT c y) (hn : l.length = c.lamp.length) {k : Nat} (hk : k < 3) :
    ∃ r s, (spansL c l)[k]? = some r ∧ (spansL (narC c.lamp.length x y) l)[k]? = some s ∧ insideB s r = true := by
  refine ⟨_, _, spansL_get c l hk, spansL_get _ l hk, ?_⟩
  have := nar_span hc hx hy hn hk
  simp [insideB]; omega
theorem nar_sure {c : Cs} {x y : Tr} {l : List Int} (hc : OkC c) (hx : OkT c x) (hy : OkT c y) (hn : l.length = c.lamp.length) (h : partB c l = false) : partB (narC c.lamp.length x y) l = false := by
  rw [part_all hc] at h
  rw [part_all (nar_ok hc hx hy)]
  have hz := (zall c l).1 (by simpa using h)
  have : (spansL (narC c.lamp.length x y) l).all zRg = true := (zall _ l).2 fun k hk => by
    have h1 := nar_span hc hx hy hn hk
    have h2 := hz k hk
    omega
  rw [this]; rfl
theorem nar_chip {c : Cs} {x y : Tr} {a : List Int} (h : okChip c a = 0) : okChip (narC c.lamp.length x y) a = 0 := by
  rw [okChip_iff] at h ⊢
  rw [nar_len]; exact h
end Go.Proofs.Ytjkpfojkkfopmaa
