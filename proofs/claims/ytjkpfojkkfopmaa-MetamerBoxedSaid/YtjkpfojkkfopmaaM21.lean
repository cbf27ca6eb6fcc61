/- Metamers: what truths can do, without the program. -/
import Derived.Test.YtjkpfojkkfopmaaM15
set_option linter.unusedSimpArgs false
set_option linter.unusedVariables false
set_option maxRecDepth 100000
namespace Go.Proofs.Ytjkpfojkkfopmaa
open Go Go.Abs Go.Proofs

theorem sumF_mono {f g : Nat → Int} : ∀ {n : Nat}, (∀ b, b < n → f b ≤ g b) → sumF f n ≤ sumF g n
  | 0, _ => Int.le_refl _
  | n + 1, h => by
    have ih := sumF_mono (f := f) (g := g) (n := n) (fun b hb => h b (by omega))
    have := h n (by omega)
    simp only [sumF]; omega
theorem sumF_each {f g : Nat → Int} : ∀ {n : Nat}, (∀ b, b < n → f b ≤ g b) → sumF f n = sumF g n → ∀ b, b < n → f b = g b
  | 0, _, _, b, hb => by omega
  | n + 1, h, e, b, hb => by
    have h1 := sumF_mono (f := f) (g := g) (n := n) (fun b hb => h b (by omega))
    have h2 := h n (by omega)
    simp only [sumF] at e
    by_cases e2 : b = n
    · subst e2; omega
    · exact sumF_each (n := n) (fun b hb => h b (by omega)) (by omega) b (by omega)
theorem sumF_one {f g : Nat → Int} {k : Nat} : ∀ {n : Nat}, k < n → (∀ b, b < n → b ≠ k → f b = g b) → sumF f n = sumF g n + (f k - g k)
  | 0, hk, _ => by omega
  | n + 1, hk, h => by
    simp only [sumF]
    by_cases e : k = n
    · subst e
      have := sumF_congr (f := f) (g := g) (n := k) (fun b hb => h b (by omega) (by omega))
      omega
    · have := sumF_one (f := f) (g := g) (n := n) (by omega) (fun b hb hne => h b (by omega) hne)
      have := h n (by omega) (by omega)
      omega
theorem sumF_zero (n : Nat) : sumF (fun _ => 0) n = 0 := by
  induction n with
  | zero => rfl
  | succ n ih => simp only [sumF, ih]; rfl
theorem sumF_sub (f g : Nat → Int) : ∀ n : Nat, sumF (fun b => f b - g b) n = sumF f n - sumF g n
  | 0 => rfl
  | n + 1 => by have := sumF_sub f g n; simp only [sumF] at this ⊢; omega

/-- A product between two others. -/
theorem mm {a p b y : Int} (h1 : a ≤ p) (h2 : p ≤ b) : min (a * y) (b * y) ≤ y * p ∧ y * p ≤ max (a * y) (b * y) := by
  rw [Int.mul_comm a, Int.mul_comm b]
  by_cases hy : 0 ≤ y
  · have e1 := Int.mul_le_mul_of_nonneg_left h1 hy
    have e2 := Int.mul_le_mul_of_nonneg_left h2 hy
    omega
  · have e1 := Int.mul_le_mul_of_nonpos_left (show y ≤ 0 by omega) h1
    have e2 := Int.mul_le_mul_of_nonpos_left (show y ≤ 0 by omega) h2
    omega
theorem mm_eq {a b y : Int} (h : a ≤ b) (e : min (a * y) (b * y) = max (a * y) (b * y)) : y = 0 ∨ a = b := by
  have e2 : a * y = b * y := by omega
  by_cases hy : y = 0
  · exact .inl hy
  · exact .inr (Int.eq_of_mul_eq_mul_right hy e2)
section
variable {c : Cs} {x : Tr} {l : List Int}
theorem OkT.between (hc : OkC c) (h : OkT c x) {i b : Nat} (hi : i < 3) (hb : b < c.lamp.length) : pL c i b ≤ pX x i b ∧ pX x i b ≤ pH c i b := by
  have h1 := hc.be i b
  have h2 := hc.bl b
  have h3 := h.be i b hi hb
  have h4 := h.bl b hb
  exact ⟨Int.mul_le_mul (by omega) (by omega) (by omega) (by omega), Int.mul_le_mul (by omega) (by omega) (by omega) (by omega)⟩
/-- By each truth the numbers are in the spans. -/
theorem boxed (hc : OkC c) (h : OkT c x) (hn : l.length ≤ c.lamp.length) {k : Nat} (hk : k < 3) : spLo c l k l.length ≤ seeF (pX x) l k ∧ seeF (pX x) l k ≤ spHi c l k l.length := by
  have key : ∀ b, b < l.length → min (pL c k b * gI l b) (pH c k b * gI l b) ≤ gI l b * pX x k b ∧ gI l b * pX x k b ≤ max (pL c k b * gI l b) (pH c k b * gI l b) := fun b hb => by
    have := OkT.between hc h hk (show b < c.lamp.length by omega)
    exact mm this.1 this.2
  exact ⟨sumF_mono (fun b hb => (key b hb).1), sumF_mono (fun b hb => (key b hb).2)⟩
theorem see_less {p : Nat → Nat → Int} {a b : List Int} (h : b.length = a.length) (k : Nat) : seeF p (lessL a b) k = seeF p a k - seeF p b k := by
  unfold seeF seeS
  rw [lessL_len, h, ← sumF_sub]
  exact sumF_congr fun j hj => by rw [gI_less hj, Int.sub_mul]
theorem zall (c : Cs) (l : List Int) : (spansL c l).all zRg = true ↔ ∀ k, k < 3 → spLo c l k l.length = 0 ∧ spHi c l k l.length = 0 := by
  simp only [spansL, List.all_cons, List.all_nil, zRg, Bool.and_true, Bool.and_eq_true, decide_eq_true_eq]
  constructor
  · rintro ⟨h0, h1, h2⟩ k hk
    have : k = 0 ∨ k = 1 ∨ k = 2 := by omega
    rcases this with rfl | rfl | rfl
    · exact h0
    · exact h1
    · exact h2
  · intro h
    exact ⟨h 0 (by decide), h 1 (by decide), h 2 (by decide)⟩
theorem zSee_iff (c : Cs) (l : List Int) : zSee c l = true ↔ ∀ k, k < 3 → seeF (pL c) l k = 0 := by
  simp only [zSee, Bool.and_eq_true, decide_eq_true_eq]
  constructor
  · rintro ⟨h0, h1, h2⟩ k hk
    have : k = 0 ∨ k = 1 ∨ k = 2 := by omega
    rcases this with rfl | rfl | rfl
    · exact h0
    · exact h1
    · exact h2
  · intro h
    exact ⟨h 0 (by decide), h 1 (by decide), h 2 (by decide)⟩
/-- They surely match just if all ranges are 0 to 0. -/
theorem part_all (hc : OkC c) : partB c l = !(spansL c l).all zRg := by
  have hLH := hc.okLH
  cases hz : (spansL c l).all zRg with
  | true =>
    have h := (zall c l).1 hz
    have hm : ∀ k b, b < l.length → min (pL c k b * gI l b) (pH c k b * gI l b) ≤ max (pL c k b * gI l b) (pH c k b * gI l b) := fun k b _ => by omega
    have hp : ∀ k b, b < l.length → min (pL c k b * gI l b) (pH c k b * gI l b) ≤ gI l b * pL c k b ∧ gI l b * pL c k b ≤ max (pL c k b * gI l b) (pH c k b * gI l b) := fun k b _ => mm (Int.le_refl _) (hLH k b)
    have h1 : zSee c l = true := (zSee_iff c l).2 fun k hk => by
      obtain ⟨e1, e2⟩ := h k hk
      have g1 := sumF_mono (f := fun b => min (pL c k b * gI l b) (pH c k b * gI l b)) (g := fun b => gI l b * pL c k b) (n := l.length) (fun b hb => (hp k b hb).1)
      have g2 := sumF_mono (f := fun b => gI l b * pL c k b) (g := fun b => max (pL c k b * gI l b) (pH c k b * gI l b)) (n := l.length) (fun b hb => (hp k b hb).2)
      have e1 : sumF (fun b => min (pL c k b * gI l b) (pH c k b * gI l b)) l.length = 0 := e1
      have e2 : sumF (fun b => max (pL c k b * gI l b) (pH c k b * gI l b)) l.length = 0 := e2
      show sumF (fun b => gI l b * pL c k b) l.length = 0
      omega
    have h2 : fo c l = none := firstB_none fun t ht => by
      have hk : t % 3 < 3 := Nat.mod_lt _ (by decide)
      obtain ⟨e1, e2⟩ := h (t % 3) hk
      have e1 : sumF (fun b => min (pL c (t % 3) b * gI l b) (pH c (t % 3) b * gI l b)) l.length = 0 := e1
      have e2 : sumF (fun b => max (pL c (t % 3) b * gI l b) (pH c (t % 3) b * gI l b)) l.length = 0 := e2
      have := sumF_each (n := l.length) (fun b hb => hm (t % 3) b hb) (e1.trans e2.symm) (t / 3) (by omega)
      rcases mm_eq (hLH _ _) this with h | h
      · simp [opn, h]
      · simp [opn, h]
    rw [partB, h1, h2]; rfl
  | false =>
    cases hz2 : zSee c l with
    | false => rw [partB, hz2]; rfl
    | true =>
      cases hf : fo c l with
      | some t => rw [partB, hf]; simp
      | none =>
        exfalso
        rw [← Bool.not_eq_true, zall] at hz
        refine hz fun k hk => ?_
        have h1 := (zSee_iff c l).1 hz2 k hk
        have h1 : sumF (fun b => gI l b * pL c k b) l.length = 0 := h1
        have key : ∀ b, b < l.length → pL c k b * gI l b = pH c k b * gI l b := fun b hb => by
          have ho := firstB_all hf (3 * b + k) (by omega)
          rw [opn_at c l hk] at ho
          simp only [Bool.and_eq_false_iff, decide_eq_false_iff_not, Classical.not_not] at ho
          rcases ho with ho | ho
          · rw [ho]; simp
          · rw [ho]
        constructor
        · show sumF _ _ = 0
          rw [← h1]
          exact sumF_congr fun b hb => by have := key b hb; rw [Int.mul_comm (gI l b)]; omega
        · show sumF _ _ = 0
          rw [← h1]
          exact sumF_congr fun b hb => by have := key b hb; rw [Int.mul_comm (gI l b)]; omega
theorem sure_eq (c : Cs) (a b : List Int) : sureP c a b = sureE c a b := by
  unfold sureP sureE
  split
  · rename_i h
    have hc := ((okChips_iff c a b).1 h).1
    rw [part_all hc]
    cases (spansL c (lessL a b)).all zRg <;> rfl
  · rfl

/-! ### Truths that are made -/
/-- A truth told by functions. -/
def mkT (n : Nat) (e : Nat → Nat → Int) (f : Nat → Int) : Tr := ⟨(List.range 3).map (fun i => (List.range n).map (e i)), (List.range n).map f⟩
theorem mkT_l {n : Nat} {e : Nat → Nat → Int} {f : Nat → Int} {b : Nat} (hb : b < n) : (mkT n e f).l b = f b := gI_get (by simp [mkT, hb])
theorem mkT_e {n : Nat} {e : Nat → Nat → Int} {f : Nat → Int} {i b : Nat} (hi : i < 3) (hb : b < n) : (mkT n e f).e i b = e i b := by
  have h1 : (mkT n e f).eye[i]? = some ((List.range n).map (e i)) := by simp [mkT, hi]
  rw [Tr.e, getD_of h1]
  exact gI_get (by simp [hb])
theorem mkT_ok {e : Nat → Nat → Int} {f : Nat → Int} (he : ∀ i b, i < 3 → b < c.lamp.length → (c.e i b).lo ≤ e i b ∧ e i b ≤ (c.e i b).hi) (hf : ∀ b, b < c.lamp.length → (c.l b).lo ≤ f b ∧ f b ≤ (c.l b).hi) : OkT c (mkT c.lamp.length e f) where
  ln := by simp [mkT]
  e3 := by simp [mkT]
  er := fun r hr => by
    simp only [mkT, List.mem_map] at hr
    obtain ⟨i, _, rfl⟩ := hr
    simp
  bl := fun b hb => by rw [mkT_l hb]; exact hf b hb
  be := fun i b hi hb => by rw [mkT_e hi hb]; exact he i b hi hb
theorem pX_mkT {n : Nat} {e : Nat → Nat → Int} {f : Nat → Int} {i b : Nat} (hi : i < 3) (hb : b < n) : pX (mkT n e f) i b = e i b * f b := by rw [pX, mkT_e hi hb, mkT_l hb]
theorem partT_mk (c : Cs) (pl : Int × Int) : partT c pl = mkT c.lamp.length (atI pl c) (atL pl c) := rfl
def pickV' (c : Cs) (by' : List Int) (b : Nat) : Int := pickV (c.l b) by' b
theorem trueT_mk (c : Cs) (by' : List Int) : trueT c by' = mkT c.lamp.length (trueR c by') (pickV' c by') := rfl
theorem partT_ok (hc : OkC c) (pl : Int × Int) : OkT c (partT c pl) := by
  rw [partT_mk]
  refine mkT_ok (fun i b _ _ => ?_) (fun b _ => ?_)
  · have := hc.be i b
    unfold atI
    split <;> omega
  · have := hc.bl b
    unfold atL
    split <;> omega
theorem trueT_ok (hc : OkC c) (by' : List Int) : OkT c (trueT c by') := by
  rw [trueT_mk]
  refine mkT_ok (fun i b _ _ => ?_) (fun b _ => ?_)
  · exact pickV_in (hc.be i b).2.1 by' _
  · exact pickV_in (hc.bl b).2.1 by' _
/-- The truth that is named parts them. -/
theorem part_parts (hc : OkC c) (hn : l.length = c.lamp.length) (h : partB c l = true) : ∃ k, k < 3 ∧ seeF (pX (partT c (partP c l))) l k ≠ 0 := by
  cases hz : zSee c l with
  | false =>
    rw [← Bool.not_eq_true, zSee_iff] at hz
    obtain ⟨k, hk⟩ := Classical.not_forall.1 hz
    obtain ⟨hk3, hk⟩ := Classical.not_imp.1 hk
    refine ⟨k, hk3, ?_⟩
    have e : partP c l = (-1, -1) := by
      unfold partP
      split
      · rename_i h2; exact absurd ((zSee_iff c l).1 h2 k hk3) hk
      · rfl
    rw [e]
    have : seeF (pX (partT c (-1, -1))) l k = seeF (pL c) l k := sumF_congr fun b hb => by
      rw [partT_mk, pX_mkT hk3 (by omega), atI, atL, if_neg (by simp), if_neg (by simp)]; rfl
    rw [this]; exact hk
  | true =>
    cases hf : fo c l with
    | none => rw [partB, hz, hf] at h; cases h
    | some t =>
      obtain ⟨ht, ho⟩ := firstB_spec hf
      have hk : t % 3 < 3 := Nat.mod_lt _ (by decide)
      have hb : t / 3 < l.length := by omega
      simp only [opn, Bool.and_eq_true, decide_eq_true_eq] at ho
      have e : partP c l = (((t % 3 : Nat) : Int), ((t / 3 : Nat) : Int)) := by simp only [partP, hz, if_true, hf]
      refine ⟨t % 3, hk, ?_⟩
      rw [e]
      have h0 := (zSee_iff c l).1 hz (t % 3) hk
      have h0 : sumF (fun b => gI l b * pL c (t % 3) b) l.length = 0 := h0
      have h1 := sumF_one (f := fun b => gI l b * pX (partT c (((t % 3 : Nat) : Int), ((t / 3 : Nat) : Int))) (t % 3) b) (g := fun b => gI l b * pL c (t % 3) b) hb (fun b hb2 hne => by
        show _ * _ = _ * _
        rw [partT_mk, pX_mkT hk (by omega), atI, atL, if_neg (by simp; omega), if_neg (by simp; omega)]; rfl)
      have h2 : pX (partT c (((t % 3 : Nat) : Int), ((t / 3 : Nat) : Int))) (t % 3) (t / 3) = pH c (t % 3) (t / 3) := by
        rw [partT_mk, pX_mkT hk (by omega), atI, atL, if_pos ⟨rfl, rfl⟩, if_pos rfl]; rfl
      show sumF _ _ ≠ 0
      rw [h1, h0, h2]
      intro h3
      have h4 : gI l (t / 3) * pH c (t % 3) (t / 3) = gI l (t / 3) * pL c (t % 3) (t / 3) := by omega
      exact ho.2 (Int.eq_of_mul_eq_mul_left ho.1 h4).symm
/-- If they surely match, no truth parts them. -/
theorem sure_none (hc : OkC c) (hn : l.length = c.lamp.length) (h : partB c l = false) (hx : OkT c x) : ∀ k, k < 3 → seeF (pX x) l k = 0 := fun k hk => by
  rw [part_all hc] at h
  have hz := (zall c l).1 (by simpa using h) k hk
  have := boxed hc hx (Nat.le_of_eq hn) hk
  omega
theorem seeL_eq {p : Nat → Nat → Int} {a b : List Int} (h : b.length = a.length) : seeL p a = seeL p b ↔ ∀ k, k < 3 → seeF p (lessL a b) k = 0 := by
  simp only [see_less h]
  unfold seeL
  constructor
  · intro he k hk
    have : k = 0 ∨ k = 1 ∨ k = 2 := by omega
    simp at he
    rcases this with rfl | rfl | rfl <;> omega
  · intro he
    have h0 := he 0 (by decide)
    have h1 := he 1 (by decide)
    have h2 := he 2 (by decide)
    simp
    omega
end
end Go.Proofs.Ytjkpfojkkfopmaa
