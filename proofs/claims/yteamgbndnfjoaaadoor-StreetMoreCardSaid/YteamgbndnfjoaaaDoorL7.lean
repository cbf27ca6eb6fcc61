/- The plain law: the cheapest choice costs the bound of the prices. -/
import Derived.Test.YteamgbndnfjoaaaDoorL6
set_option linter.unusedSimpArgs false
set_option linter.unusedVariables false
set_option maxRecDepth 100000
namespace Go.Proofs.YteamgbndnfjoaaaDoor
open Go Go.Abs Go.Proofs

theorem pathR_st' : ∀ {n : Nat} {a : Int} {es : List (Int × Stp)} {w : W} {x : Bool × W}, pathR n a es w = some x → (∀ i, 0 ≤ w.1 i ∧ w.1 i ≤ 1) → ∀ i, 0 ≤ x.2.1 i ∧ x.2.1 i ≤ 1
  | 0, a, es, w, x, h, _ => by cases h
  | n + 1, a, es, w, x, h, hw => by
    rw [pathR] at h
    split at h
    · cases h; exact hw
    · split at h
      · cases h; exact hw
      · exact pathR_st' h (takeS_st hw)
theorem waysR_st' {r : Rd} {m : Nat} : ∀ {k : Nat} {w : W} {far : Nat → Int} {x : Bool × W × (Nat → Int)}, waysR r m k w far = some x → (∀ i, 0 ≤ w.1 i ∧ w.1 i ≤ 1) → ∀ i, 0 ≤ x.2.1.1 i ∧ x.2.1.1 i ≤ 1
  | 0, w, far, x, h, hw => by cases h; exact hw
  | k + 1, w, far, x, h, hw => by
    rw [waysR] at h
    split at h
    · cases h
    split at h
    · cases h; exact hw
    split at h
    · cases h
    · rename_i hp; cases h; exact pathR_st' hp hw
    · rename_i hp; exact waysR_st' h (pathR_st' hp hw)
theorem priL_get {f : Nat → Int} {n k : Nat} (h : k < n) : (priL f n)[k]? = some (wr .i64 (f (k + 1) - f k)) := by simp [priL, h]
/-- What is known at the end. -/
structure Opt (r : Rd) (w : W) (f : Nat → Int) : Prop where
  ok : ∃ N, OkW r w N
  net : ∀ p, p < r.pl.toNat → netw r w p = r.de + 1
  pb : PB (worth r f)
  rc : RC (stepsL r w.1 w.2) (worth r f)
theorem Opt.diff {r : Rd} {w : W} {f : Nat → Int} (hr : OkR r) (h : Opt r w f) {k : Nat} (hk : k < r.pl.toNat) : 0 ≤ f (k + 1) - f k ∧ f (k + 1) - f k ≤ 50000000 ∧ wr .i64 (f (k + 1) - f k) = f (k + 1) - f k := by
  have p40 := hr.p40
  have hs := h.rc _ (mem_steps.2 (.inl ⟨k, hk, rfl⟩))
  have e : ((k : Int) + 1).toNat = k + 1 := by omega
  simp only [e, Int.toNat_natCast, Int.add_zero] at hs
  have h1 := h.pb.lo (k + 1) (by omega)
  have h2 := h.pb.hi (k + 1) (by omega)
  have h3 := h.pb.lo k (by omega)
  have e1 : worth r f (k + 1) = f (k + 1) := by simp only [worth]; rw [if_pos (by omega)]
  have e2 : worth r f k = f k := by simp only [worth]; rw [if_pos (by omega)]
  rw [e1] at hs h1 h2
  rw [e2] at hs h3
  exact ⟨by omega, by omega, wr_id (by omega) (by omega)⟩
theorem Opt.prices {r : Rd} {w : W} {f : Nat → Int} (hr : OkR r) (h : Opt r w f) : OkX (priL f r.pl.toNat) := fun x hx => by
  obtain ⟨k, hk⟩ := List.getElem?_of_mem hx
  have hlt := (List.getElem?_eq_some_iff.1 hk).1
  rw [priL_len] at hlt
  rw [priL_get hlt] at hk
  cases hk
  obtain ⟨a, b, c⟩ := h.diff hr hlt
  rw [c]; omega
/-- The prices of the places that a post lights: by how much its ends differ. -/
theorem Opt.lit {r : Rd} {w : W} {f : Nat → Int} (hr : OkR r) (h : Opt r w f) {i : Nat} (hi : i < r.ps.length) (hft : rFrom r i < rTo r i) : litS r (priL f r.pl.toNat) i r.pl.toNat = f (rTo r i).toNat - f (rFrom r i).toNat := by
  have hp := hr.post (i := (i : Int)) (by omega) (by omega)
  have i0 := hr.i0
  have hf0 : 0 ≤ rFrom r i := by simp only [rFrom]; omega
  have hto : rTo r i ≤ r.pl := by simp only [rTo]; omega
  have key : ∀ m, m ≤ r.pl.toNat → litS r (priL f r.pl.toNat) i m = f (min m (rTo r i).toNat) - f (min m (rFrom r i).toNat) := by
    intro m
    induction m with
    | zero => intro _; simp [litS]
    | succ m ih =>
      intro hm
      have ih := ih (by omega)
      obtain ⟨_, _, hw⟩ := h.diff hr (show m < r.pl.toNat by omega)
      simp only [litS, ih, priL_get (show m < r.pl.toNat by omega), Option.getD_some, hw]
      by_cases hl : litB r (po r i) (m : Int) = true
      · obtain ⟨h1, h2⟩ := (litB_iff r i m).1 hl
        rw [if_pos hl, Nat.min_eq_left (show m ≤ (rTo r i).toNat by omega), Nat.min_eq_left (show m + 1 ≤ (rTo r i).toNat by omega), Nat.min_eq_right (show (rFrom r i).toNat ≤ m by omega), Nat.min_eq_right (show (rFrom r i).toNat ≤ m + 1 by omega)]
        omega
      · have hn : ¬ (rFrom r i ≤ m ∧ (m : Int) < rTo r i) := fun h => hl ((litB_iff r i m).2 h)
        rw [if_neg hl]
        by_cases h1 : (rTo r i).toNat ≤ m
        · rw [Nat.min_eq_right h1, Nat.min_eq_right (show (rTo r i).toNat ≤ m + 1 by omega), Nat.min_eq_right (show (rFrom r i).toNat ≤ m by omega), Nat.min_eq_right (show (rFrom r i).toNat ≤ m + 1 by omega)]; omega
        · rw [Nat.min_eq_left (show m ≤ (rTo r i).toNat by omega), Nat.min_eq_left (show m + 1 ≤ (rTo r i).toNat by omega), Nat.min_eq_left (show m ≤ (rFrom r i).toNat by omega), Nat.min_eq_left (show m + 1 ≤ (rFrom r i).toNat by omega)]; omega
  have := key _ (Nat.le_refl _)
  rw [this, Nat.min_eq_right (by omega), Nat.min_eq_right (by omega)]
/-- It costs just the bound of the prices. -/
theorem Opt.cost {r : Rd} {w : W} {f : Nat → Int} (hr : OkR r) (h : Opt r w f) : costP r w.1 r.ps.length = bndP r (priL f r.pl.toNat) r.ps.length := by
  obtain ⟨N, hw⟩ := h.ok
  have p40 := hr.p40
  have hlen := priL_len f r.pl.toNat
  have ht := tightE r (priL f r.pl.toNat) hw.st r.ps.length (fun i hi => by
    rw [hlen]
    have hp := hr.post (i := (i : Int)) (by omega) (by omega)
    have i0 := hr.i0
    by_cases hft : rFrom r i < rTo r i
    · rw [h.lit hr hi hft]
      have hs := h.rc _ (mem_steps.2 (.inr (.inr ⟨i, hi, hft, rfl⟩)))
      have e1 : worth r f (rFrom r i).toNat = f (rFrom r i).toNat := by simp only [worth]; rw [if_pos (by simp only [rFrom, rTo] at hft ⊢; omega)]
      have e2 : worth r f (rTo r i).toNat = f (rTo r i).toNat := by simp only [worth]; rw [if_pos (by simp only [rFrom, rTo] at hft ⊢; omega)]
      constructor
      · intro h1
        have e : postS r w.1 i = ⟨rTo r i, rFrom r i, -(po r i).co, i⟩ := by simp [postS, h1]
        rw [e] at hs
        simp only [e1, e2] at hs
        omega
      · intro h0
        have e : postS r w.1 i = ⟨rFrom r i, rTo r i, (po r i).co, i⟩ := by simp [postS, h0]
        rw [e] at hs
        simp only [e1, e2] at hs
        omega
    · rw [lit_none hft]
      exact ⟨fun h1 => absurd (hw.lit i h1).2 hft, fun _ => hp.2.2.2.2.1⟩)
  have hs := dot_swap r (priL f r.pl.toNat) w.1 r.ps.length
  have he := dotP_eq (l := priL f r.pl.toNat) (g := fun p : Nat => litP r w.1 r.ps.length p) (h := fun _ => r.de + 1) (priL f r.pl.toNat).length (fun p hp => by
    rw [hlen] at hp
    have hn := h.net p hp
    simp only [netw] at hn
    obtain ⟨_, _, hwr⟩ := h.diff hr hp
    rw [priL_get hp, Option.getD_some, hwr]
    by_cases hb : 0 < w.2 p
    · have hs := h.rc _ (mem_steps.2 (.inr (.inl ⟨p, hp, hb, rfl⟩)))
      have e : ((p : Int) + 1).toNat = p + 1 := by omega
      simp only [e, Int.toNat_natCast, Int.add_zero] at hs
      have e1 : worth r f (p + 1) = f (p + 1) := by simp only [worth]; rw [if_pos (by omega)]
      have e2 : worth r f p = f p := by simp only [worth]; rw [if_pos (by omega)]
      rw [e1, e2] at hs
      obtain ⟨h0, _, _⟩ := h.diff hr hp
      have : f (p + 1) - f p = 0 := by omega
      rw [this]; simp
    · have := hw.b0 p
      rw [show litP r w.1 r.ps.length p = r.de + 1 by omega])
  rw [he, dotP_const _ _ _ (Nat.le_refl _), List.take_length] at hs
  omega

/-- The choice of the posts that stand. -/
theorem choP_mem {f : Nat → Int} {x : Int} : ∀ {m : Nat}, x ∈ choP f m ↔ ∃ i : Nat, i < m ∧ x = i ∧ f i = 1
  | 0 => by simp [choP]
  | m + 1 => by
    simp only [choP, List.mem_append, choP_mem (m := m)]
    constructor
    · rintro (⟨i, h1, h2, h3⟩ | h)
      · exact ⟨i, by omega, h2, h3⟩
      · split at h
        · rename_i h1; exact ⟨m, by omega, by simpa using h, h1⟩
        · simp at h
    · rintro ⟨i, h1, h2, h3⟩
      by_cases e : i = m
      · subst e; right; rw [if_pos h3]; simp [h2]
      · exact .inl ⟨i, by omega, h2, h3⟩
theorem choP_rises (f : Nat → Int) : ∀ m : Nat, rises (choP f m) m = true
  | 0 => rfl
  | m + 1 => by
    have ih := choP_rises f m
    have snoc : ∀ {l : List Int} {a n m : Int}, risesB l a n = true → a < m → n ≤ m → risesB (l ++ [m]) a (m + 1) = true := by
      intro l
      induction l with
      | nil => intro a n m _ h1 _; simp [risesB]; omega
      | cons x l ih =>
        intro a n m h h1 h2
        simp only [risesB, Bool.and_eq_true, decide_eq_true_eq, List.cons_append] at h ⊢
        exact ⟨by omega, ih h.2 (by omega) h2⟩
    have more : ∀ {l : List Int} {a n m : Int}, risesB l a n = true → n ≤ m → risesB l a m = true := by
      intro l
      induction l with
      | nil => intro a n m _ _; rfl
      | cons x l ih =>
        intro a n m h h1
        simp only [risesB, Bool.and_eq_true, decide_eq_true_eq] at h ⊢
        exact ⟨by omega, ih h.2 h1⟩
    simp only [choP]
    split
    · exact snoc (m := (m : Int)) ih (by omega) (Int.le_refl _)
    · rw [List.append_nil]; exact more ih (by omega)
theorem ind_choP {f : Nat → Int} (hf : ∀ i, f i = 0 ∨ f i = 1) (m : Nat) {i : Nat} (hi : i < m) : ind (choP f m) i = f i := by
  unfold ind
  rcases hf i with h | h
  · rw [if_neg, h]
    rw [choP_mem]
    rintro ⟨j, h1, h2, h3⟩
    have : i = j := by omega
    subst this
    rw [h] at h3; exact absurd h3 (by decide)
  · rw [if_pos, h]
    exact choP_mem.2 ⟨i, hi, rfl, h⟩
theorem okCh_choP {r : Rd} (hr : OkR r) (f : Nat → Int) : okCh r (choP f r.ps.length) = 0 := by
  unfold okCh
  rw [if_neg (by simpa using hr.zero), choP_rises]; rfl
theorem litP_exti {r : Rd} {f g : Nat → Int} (p : Int) (h : ∀ i, i < r.ps.length → f i = g i) : litP r f r.ps.length p = litP r g r.ps.length p := litP_ext p _ h
theorem holdsB_iff {r : Rd} {l : List Int} : holdsB r l = true ↔ ∀ p : Nat, p < r.pl.toNat → r.de < litP r (ind l) r.ps.length p := by
  rw [holdsB, List.all_eq_true]
  constructor
  · intro h p hp
    have := h (litP r (ind l) r.ps.length p) (List.mem_map.2 ⟨p, by simpa using hp, rfl⟩)
    simpa using this
  · intro h x hx
    obtain ⟨p, hp, rfl⟩ := List.mem_map.1 hx
    simpa using h p (by simpa using hp)
/-- A choice that holds costs no less than prices tell. -/
theorem weak_ch {r : Rd} {l : List Int} {ch : List Int} (hr : OkR r) (hl : (l.length : Int) = r.pl) (hx : OkX l) (hh : holdsB r ch = true) : bndP r l r.ps.length ≤ costL r ch :=
  weak_dual hl (fun x h => (hx x h).1) (fun i => by unfold ind; split <;> simp) (fun p hp => by have := holdsB_iff.1 hh p (by omega); omega)
theorem zw_st' : ∀ i, 0 ≤ zw.1 i ∧ zw.1 i ≤ 1 := fun i => by simp [zw, zf]
structure Best (r : Rd) (c : List Int) (n : Int) (pr : List Int) : Prop where
  ch : okCh r c = 0
  hold : holdsB r c = true
  cost : costL r c = n
  prX : OkX pr
  prL : (pr.length : Int) = r.pl
  bound : bndP r pr r.ps.length = n
/-- THE LAW: there is a choice that holds, with prices whose bound it costs, and it is what is found; or a place cannot be lit often enough. -/
theorem street_law {r : Rd} (hr : OkR r) : ∃ (m : Nat) (b : Bool) (w : W) (f : Nat → Int), waysR r m (r.de.toNat + 1) zw zf = some (b, w, f) ∧ (∀ i, 0 ≤ w.1 i ∧ w.1 i ≤ 1) ∧
    (b = true → Best r (choP w.1 r.ps.length) (costP r w.1 r.ps.length) (priL f r.pl.toNat)) ∧ (b = false → ∀ ch, holdsB r ch = false) := by
  have p1 := hr.p1
  obtain ⟨m, ⟨b, w, f⟩, h1, h2, h3⟩ := ways_all hr
  refine ⟨m, b, w, f, h1, waysR_st' h1 zw_st', fun hb => ?_, fun hb ch => ?_⟩
  · obtain ⟨⟨N, hw⟩, a2, a3, a4⟩ := h2 hb
    have hO : Opt r w f := ⟨⟨N, hw⟩, a2, a3, a4⟩
    have hind : ∀ i, i < r.ps.length → ind (choP w.1 r.ps.length) i = w.1 i := fun i hi => ind_choP hw.st _ hi
    refine ⟨okCh_choP hr _, holdsB_iff.2 (fun p hp => ?_), costP_ext _ hind, hO.prices hr, by rw [priL_len]; omega, (hO.cost hr).symm⟩
    rw [litP_exti _ hind]
    have this : netw r w p = r.de + 1 := a2 p hp
    have hb0 : 0 ≤ w.2 p := hw.b0 p
    simp only [netw] at this
    omega
  · obtain ⟨p, hp, hc⟩ := h3 hb
    cases hh : holdsB r ch with
    | false => rfl
    | true =>
      have := holdsB_iff.1 hh p hp
      have hle : ∀ m, litP r (ind ch) m p ≤ litP r one' m p := by
        intro m
        induction m with
        | zero => exact Int.le_refl _
        | succ m ih =>
          simp only [litP]
          have := ind_bnd ch m
          split
          · simp only [one']; omega
          · omega
      have := hle r.ps.length
      omega
end Go.Proofs.YteamgbndnfjoaaaDoor
