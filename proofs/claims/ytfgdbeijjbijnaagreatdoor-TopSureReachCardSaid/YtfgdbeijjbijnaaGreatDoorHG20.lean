/- The plain law: all ways; what they cost. -/
import Derived.Test.YtfgdbeijjbijnaaGreatDoorHG19
import Derived.Test.YtfgdbeijjbijnaaGreatDoorHG17
import Derived.Test.YtfgdbeijjbijnaaGreatDoorHG12
import Derived.Test.YtfgdbeijjbijnaaGreatDoorHG14
import Derived.Test.YtfgdbeijjbijnaaGreatDoorHG16
import Derived.Test.YtfgdbeijjbijnaaGreatDoorCards
import Derived.Test.YtfgdbeijjbijnaaGreatDoorTie
import Derived.Test.YtfgdbeijjbijnaaGreatDoorHG15
import Derived.SizedLaws
set_option linter.unusedSimpArgs false
set_option linter.unusedVariables false
set_option linter.unusedSimpArgs false
set_option linter.unusedVariables false
set_option maxRecDepth 100000
namespace Go.Proofs.YtfgdbeijjbijnaaGreatDoor
open Go Go.Abs Go.Proofs
theorem Qb {r : Rd} (hr : OkR r) : ∀ (k : Nat) (w : W) (far pi : Nat → Int) (N m0 : Int), OkW r w N → N + 41 * k ≤ 1000000 → RC (Av r w.1 w.2) pi → PB pi → (∀ p, p < r.pl.toNat → Fg r w p = m0) →
  ∃ (m : Nat) (x : Bool × W × (Nat → Int)), (∀ m', m ≤ m' → Eb r m' k w far = some x) ∧
   (x.1 = true → (∃ N', OkW r x.2.1 N') ∧ (∀ p, p < r.pl.toNat → Fg r x.2.1 p = m0 + k) ∧ ((k = 0 ∧ x.2.2 = far ∧ x.2.1 = w) ∨ (k ≠ 0 ∧ PB (BL r x.2.2) ∧ RC (Av r x.2.1.1 x.2.1.2) (BL r x.2.2)))) ∧
   (x.1 = false → ∃ p, p < r.pl.toNat ∧ litP r aC0 r.ps.length (p : Nat) < m0 + k)
 | 0, w, far, pi, N, m0, hw, _, _, _, hnet => ⟨0, (true, w, far), fun m' _ => rfl, fun _ => ⟨⟨N, hw⟩, fun p hp => by rw [hnet p hp]; simp, .inl ⟨rfl, rfl, rfl⟩⟩, fun h => by cases h⟩
 | k + 1, w, far, pi, N, m0, hw, hN, hrc, hpb, hnet => by
  have p40 := hr.p40
  have p1 := hr.p1
  have hl := U2 (w := w) hr
  obtain ⟨n, q, hq, hi, hfx⟩ := TP hl hrc hpb ((KH q0.far 41).toNat + 1) (aHQ _ pi) (by omega)
  by_cases hnev : q.far r.pl.toNat = Au
  ·obtain ⟨p, hp, hc⟩ := aHT hr hw hi hfx hnev
   refine ⟨n, (false, w, zf), fun m' hm => ?_, fun h => (by cases h), fun _ => ⟨p, hp, by rw [hc, hnet p hp]; omega⟩⟩
   obtain ⟨d, rfl⟩ := Nat.exists_eq_add_of_le hm
   rw [Eb, GN hq d]
   simp only [hnev, if_true]
  ·obtain ⟨hpb', hrc'⟩ := aCZ hr hpb hi hfx hnev
   obtain ⟨t, ht⟩ := hi.tr r.pl.toNat (by omega) hnev
   obtain ⟨c, hc⟩ := ht.ch
   have hok := TQ hl hi hfx hc (by omega) hnev
   have hlen := aHS hl hi hfx hc (by omega) hnev
   obtain ⟨g1, g2, g3⟩ := TT hr (c := c) (pi := BL r q.far) hw (by omega) (fun s hs => ⟨(hok s hs).1, by
    obtain ⟨e1, e2⟩ := KM hr (hok s hs).1
    simp only [BL, e1, e2, if_true]
    exact (hok s hs).2.1⟩) (FG hl hi hc (by omega) hnev) hrc'
   obtain ⟨m2, x, h1, h2, h3⟩ := Qb hr k (Gs c w) q.far (BL r q.far) (N + c.length) (m0 + 1) g1 (by push_cast at hN; omega) g2 hpb' (fun p hp => by
    rw [g3 p hp, hnet p hp, MT hl hi hfx p hc (by omega) hnev, if_pos hp])
   refine ⟨n + (c.length + 1) + m2, x, fun m' hm => ?_, fun hx => ?_, fun hx => ?_⟩
   ·obtain ⟨d, hd⟩ := Nat.exists_eq_add_of_le (show n ≤ m' by omega)
    obtain ⟨d2, hd2⟩ := Nat.exists_eq_add_of_le (show c.length + 1 ≤ m' by omega)
    have hf : C9 (Av r w.1 w.2) m' q0 = some q := by rw [hd]; exact GN hq d
    have hp : EN m' r.pl q.by' w = some (true, Gs c w) := by
     have := P4 (w := w) d2 hc (fun s hs => (hl.ok s (hok s hs).1).f0)
     rw [← hd2, show ((r.pl.toNat : Nat) : Int) = r.pl by omega] at this
     exact this
    rw [Eb, hf]
    simp only [hnev, if_false, hp]
    exact h1 m' (by omega)
   ·obtain ⟨a1, a2, a3⟩ := h2 hx
    refine ⟨a1, fun p hp => by rw [a2 p hp]; push_cast; omega, .inr ⟨by omega, ?_⟩⟩
    rcases a3 with ⟨_, e1, e2⟩ | ⟨_, e1, e2⟩
    ·rw [e1, e2]; exact ⟨hpb', g2⟩
    ·exact ⟨e1, e2⟩
   ·obtain ⟨p, hp, h⟩ := h3 hx
    exact ⟨p, hp, by push_cast; omega⟩
theorem aPR (r : Rd) : OkW r zw 0 := ⟨fun i => .inl rfl, fun i h => by simp [zw, zf] at h, fun k => by simp [zw, zf], fun k => by simp [zw, zf]⟩
theorem aPS {r : Rd} (hr : OkR r) : RC (Av r zw.1 zw.2) (fun _ => 0) := fun s hs => by
 rcases Ao.1 hs with ⟨k, hk, rfl⟩ | ⟨k, hk, hb, rfl⟩ | ⟨i, hi, hft, rfl⟩
 ·simp
 ·simp
 ·have := hr.post (i := (i : Int)) (by omega) (by omega)
  have e : A0 r zw.1 i = ⟨As r i, rTo r i, (po r i).co, i⟩ := by simp [A0, zw, zf]
  rw [e]; simp only; omega
theorem aC4 {r : Rd} (hr : OkR r) : ∃ (m : Nat) (x : Bool × W × (Nat → Int)), Eb r m (r.de.toNat + 1) zw zf = some x ∧
      (x.1 = true → (∃ N', OkW r x.2.1 N') ∧ (∀ p, p < r.pl.toNat → Fg r x.2.1 p = r.de + 1) ∧ PB (BL r x.2.2) ∧ RC (Av r x.2.1.1 x.2.1.2) (BL r x.2.2)) ∧
      (x.1 = false → ∃ p, p < r.pl.toNat ∧ litP r aC0 r.ps.length (p : Nat) ≤ r.de) := by
 have d0 := hr.d0
 have d2 := hr.d2
 obtain ⟨m, x, h1, h2, h3⟩ := Qb hr (r.de.toNat + 1) zw zf (fun _ => 0) 0 0 (aPR r) (by push_cast; omega) (aPS hr) ⟨rfl, fun _ _ => Int.le_refl _, fun _ _ => by decide⟩ (fun p _ => by
  simp only [Fg, zw]; rw [MR]; simp [zf])
 refine ⟨m, x, h1 m (Nat.le_refl _), fun hx => ?_, fun hx => ?_⟩
 ·obtain ⟨a1, a2, a3⟩ := h2 hx
  refine ⟨a1, fun p hp => by rw [a2 p hp]; push_cast; omega, ?_⟩
  rcases a3 with ⟨e, _⟩ | ⟨_, e⟩
  ·omega
  ·exact e
 ·obtain ⟨p, hp, h⟩ := h3 hx
  exact ⟨p, hp, by push_cast at h; omega⟩
def EO (l : List Int) (g : Nat → Int) : Nat → Int
 | 0 => 0
 | m + 1 => EO l g m + (l[m]?).getD 0 * g m
def Mj (r : Rd) (l : List Int) (f : Nat → Int) : Nat → Int
 | 0 => 0
 | n + 1 => Mj r l f n + f n * Hz r l n l.length
theorem Qc (l : List Int) (g h : Nat → Int) : ∀ m, EO l (fun p => g p + h p) m = EO l g m + EO l h m
 | 0 => rfl
 | m + 1 => by simp only [EO, Qc l g h m, Int.mul_add]; omega
theorem Qd (r : Rd) (l : List Int) (n : Nat) (v : Int) : ∀ m, EO l (fun p : Nat => if litB r (po r n) p then v else 0) m = v * Hz r l n m
 | 0 => by simp [EO, Hz]
 | m + 1 => by
  simp only [EO, Hz, Qd r l n v m]
  split
  ·rw [Int.mul_add]; congr 1; exact Int.mul_comm _ _
  ·simp
theorem MU (l : List Int) : ∀ m, EO l (fun _ => 0) m = 0
 | 0 => rfl
 | m + 1 => by simp [EO, MU l m]
theorem KR (r : Rd) (l : List Int) (f : Nat → Int) : ∀ n, EO l (fun p : Nat => litP r f n p) l.length = Mj r l f n
 | 0 => by simp only [litP, Mj]; exact MU l _
 | n + 1 => by
  have := Qc l (fun p : Nat => litP r f n p) (fun p : Nat => if litB r (po r n) p then f n else 0) l.length
  simp only [litP, Mj]
  rw [this, KR r l f n, Qd]
theorem GP (l : List Int) (d : Int) : ∀ m, m ≤ l.length → EO l (fun _ => d) m = d * (l.take m).sum
 | 0, _ => by simp [EO]
 | m + 1, h => by
  obtain ⟨x, hx⟩ := Bm (show m < l.length by omega)
  rw [EO, GP l d m (by omega), Mg hx, hx, Int.mul_add, Option.getD_some, Int.mul_comm x]
theorem TW {l : List Int} (hl : ∀ x ∈ l, 0 ≤ x) {g h : Nat → Int} : ∀ m, (∀ p, p < m → g p ≤ h p) → EO l g m ≤ EO l h m
 | 0, _ => Int.le_refl _
 | m + 1, hg => by
  have ih := TW hl m (fun p hp => hg p (by omega))
  have h0 : 0 ≤ (l[m]?).getD 0 := by
   cases hm : l[m]? with
   | none => simp
   | some x => exact hl x (List.mem_of_getElem? hm)
  have := Int.mul_le_mul_of_nonneg_left (hg m (by omega)) h0
  simp only [EO]; omega
theorem TX {l : List Int} {g h : Nat → Int} : ∀ m, (∀ p, p < m → (l[p]?).getD 0 * g p = (l[p]?).getD 0 * h p) → EO l g m = EO l h m
 | 0, _ => rfl
 | m + 1, hg => by simp only [EO, TX m (fun p hp => hg p (by omega)), hg m (by omega)]
theorem weak (r : Rd) (l : List Int) {f : Nat → Int} (hf : ∀ i, f i = 0 ∨ f i = 1) : ∀ n : Nat, Mj r l f n + KO r l n ≤ costP r f n + (r.de + 1) * l.sum
 | 0 => by simp [Mj, KO, costP]
 | n + 1 => by
  have ih := weak r l hf n
  simp only [Mj, KO, costP]
  rcases hf n with h | h <;> rw [h, Int.max_def] <;> split <;> omega
theorem aC5 (r : Rd) (l : List Int) {f : Nat → Int} (hf : ∀ i, f i = 0 ∨ f i = 1) : ∀ n : Nat, (∀ i : Nat, i < n → (f i = 1 → (po r i).co ≤ Hz r l i l.length) ∧ (f i = 0 → Hz r l i l.length ≤ (po r i).co)) → Mj r l f n + KO r l n = costP r f n + (r.de + 1) * l.sum
 | 0, _ => by simp [Mj, KO, costP]
 | n + 1, ht => by
  have ih := aC5 r l hf n (fun i hi => ht i (by omega))
  have h2 := ht n (by omega)
  simp only [Mj, KO, costP]
  rcases hf n with h | h
  ·have := h2.2 h
   rw [h, Int.max_def]; split <;> omega
  ·have := h2.1 h
   rw [h, Int.max_def]; split <;> omega
theorem U5 {r : Rd} {l : List Int} {f : Nat → Int} (hl : (l.length : Int) = r.pl) (hx : ∀ x ∈ l, 0 ≤ x) (hf : ∀ i, f i = 0 ∨ f i = 1) (hh : ∀ p : Nat, (p : Int) < r.pl → r.de + 1 ≤ litP r f r.ps.length p) : KO r l r.ps.length ≤ costP r f r.ps.length := by
 have h1 := weak r l hf r.ps.length
 have h2 := KR r l f r.ps.length
 have h3 := TW hx (g := fun _ => r.de + 1) (h := fun p : Nat => litP r f r.ps.length p) l.length (fun p hp => hh p (by omega))
 rw [GP l _ l.length (Nat.le_refl _), List.take_length, h2] at h3
 omega
end Go.Proofs.YtfgdbeijjbijnaaGreatDoor
set_option linter.unusedSimpArgs false
set_option linter.unusedVariables false
set_option maxRecDepth 100000
namespace Go.Proofs.YtfgdbeijjbijnaaGreatDoor
open Go Go.Abs Go.Proofs
theorem In : ∀ {n : Nat} {a : Int} {es : List (Int × Stp)} {w : W} {x : Bool × W}, EN n a es w = some x → (∀ i, 0 ≤ w.1 i ∧ w.1 i ≤ 1) → ∀ i, 0 ≤ x.2.1 i ∧ x.2.1 i ≤ 1
 | 0, a, es, w, x, h, _ => by cases h
 | n + 1, a, es, w, x, h, hw => by
  rw [EN] at h
  split at h
  ·cases h; exact hw
  ·split at h
   ·cases h; exact hw
   ·exact In h (P2 hw)
theorem MV {r : Rd} {m : Nat} : ∀ {k : Nat} {w : W} {far : Nat → Int} {x : Bool × W × (Nat → Int)}, Eb r m k w far = some x → (∀ i, 0 ≤ w.1 i ∧ w.1 i ≤ 1) → ∀ i, 0 ≤ x.2.1.1 i ∧ x.2.1.1 i ≤ 1
 | 0, w, far, x, h, hw => by cases h; exact hw
 | k + 1, w, far, x, h, hw => by
  rw [Eb] at h
  split at h
  ·cases h
  split at h
  ·cases h; exact hw
  split at h
  ·cases h
  ·rename_i hp; cases h; exact In hp hw
  ·rename_i hp; exact MV h (In hp hw)
theorem KS {f : Nat → Int} {n k : Nat} (h : k < n) : (EZ f n)[k]? = some (wr .i64 (f (k + 1) - f k)) := by simp [EZ, h]
structure Opt (r : Rd) (w : W) (f : Nat → Int) : Prop where
 ok : ∃ N, OkW r w N
 net : ∀ p, p < r.pl.toNat → Fg r w p = r.de + 1
 pb : PB (BL r f)
 rc : RC (Av r w.1 w.2) (BL r f)
theorem Opt.diff {r : Rd} {w : W} {f : Nat → Int} (hr : OkR r) (h : Opt r w f) {k : Nat} (hk : k < r.pl.toNat) : 0 ≤ f (k + 1) - f k ∧ f (k + 1) - f k ≤ 50000000 ∧ wr .i64 (f (k + 1) - f k) = f (k + 1) - f k := by
 have p40 := hr.p40
 have hs := h.rc _ (Ao.2 (.inl ⟨k, hk, rfl⟩))
 have e : ((k : Int) + 1).toNat = k + 1 := by omega
 simp only [e, Int.toNat_natCast, Int.add_zero] at hs
 have h1 := h.pb.lo (k + 1) (by omega)
 have h2 := h.pb.hi (k + 1) (by omega)
 have h3 := h.pb.lo k (by omega)
 have e1 : BL r f (k + 1) = f (k + 1) := by simp only [BL]; rw [if_pos (by omega)]
 have e2 : BL r f k = f k := by simp only [BL]; rw [if_pos (by omega)]
 rw [e1] at hs h1 h2
 rw [e2] at hs h3
 exact ⟨by omega, by omega, BQ (by omega) (by omega)⟩
theorem Opt.prices {r : Rd} {w : W} {f : Nat → Int} (hr : OkR r) (h : Opt r w f) : OkX (EZ f r.pl.toNat) := fun x hx => by
 obtain ⟨k, hk⟩ := List.getElem?_of_mem hx
 have hlt := (List.getElem?_eq_some_iff.1 hk).1
 rw [HA] at hlt
 rw [KS hlt] at hk
 cases hk
 obtain ⟨a, b, c⟩ := h.diff hr hlt
 rw [c]; omega
theorem Opt.lit {r : Rd} {w : W} {f : Nat → Int} (hr : OkR r) (h : Opt r w f) {i : Nat} (hi : i < r.ps.length) (hft : As r i < rTo r i) : Hz r (EZ f r.pl.toNat) i r.pl.toNat = f (rTo r i).toNat - f (As r i).toNat := by
 have hp := hr.post (i := (i : Int)) (by omega) (by omega)
 have i0 := hr.i0
 have hf0 : 0 ≤ As r i := by simp only [As]; omega
 have hto : rTo r i ≤ r.pl := by simp only [rTo]; omega
 have key : ∀ m, m ≤ r.pl.toNat → Hz r (EZ f r.pl.toNat) i m = f (min m (rTo r i).toNat) - f (min m (As r i).toNat) := by
  intro m
  induction m with
  | zero => intro _; simp [Hz]
  | succ m ih =>
   intro hm
   have ih := ih (by omega)
   obtain ⟨_, _, hw⟩ := h.diff hr (show m < r.pl.toNat by omega)
   simp only [Hz, ih, KS (show m < r.pl.toNat by omega), Option.getD_some, hw]
   by_cases hl : litB r (po r i) (m : Int) = true
   ·obtain ⟨h1, h2⟩ := (Hy r i m).1 hl
    rw [if_pos hl, Nat.min_eq_left (show m ≤ (rTo r i).toNat by omega), Nat.min_eq_left (show m + 1 ≤ (rTo r i).toNat by omega), Nat.min_eq_right (show (As r i).toNat ≤ m by omega), Nat.min_eq_right (show (As r i).toNat ≤ m + 1 by omega)]
    omega
   ·have hn : ¬ (As r i ≤ m ∧ (m : Int) < rTo r i) := fun h => hl ((Hy r i m).2 h)
    rw [if_neg hl]
    by_cases h1 : (rTo r i).toNat ≤ m
    ·rw [Nat.min_eq_right h1, Nat.min_eq_right (show (rTo r i).toNat ≤ m + 1 by omega), Nat.min_eq_right (show (As r i).toNat ≤ m by omega), Nat.min_eq_right (show (As r i).toNat ≤ m + 1 by omega)]; omega
    ·rw [Nat.min_eq_left (show m ≤ (rTo r i).toNat by omega), Nat.min_eq_left (show m + 1 ≤ (rTo r i).toNat by omega), Nat.min_eq_left (show m ≤ (As r i).toNat by omega), Nat.min_eq_left (show m + 1 ≤ (As r i).toNat by omega)]; omega
 have := key _ (Nat.le_refl _)
 rw [this, Nat.min_eq_right (by omega), Nat.min_eq_right (by omega)]
theorem Opt.cost {r : Rd} {w : W} {f : Nat → Int} (hr : OkR r) (h : Opt r w f) : costP r w.1 r.ps.length = KO r (EZ f r.pl.toNat) r.ps.length := by
 obtain ⟨N, hw⟩ := h.ok
 have p40 := hr.p40
 have hlen := HA f r.pl.toNat
 have ht := aC5 r (EZ f r.pl.toNat) hw.st r.ps.length (fun i hi => by
  rw [hlen]
  have hp := hr.post (i := (i : Int)) (by omega) (by omega)
  have i0 := hr.i0
  by_cases hft : As r i < rTo r i
  ·rw [h.lit hr hi hft]
   have hs := h.rc _ (Ao.2 (.inr (.inr ⟨i, hi, hft, rfl⟩)))
   have e1 : BL r f (As r i).toNat = f (As r i).toNat := by simp only [BL]; rw [if_pos (by simp only [As, rTo] at hft ⊢; omega)]
   have e2 : BL r f (rTo r i).toNat = f (rTo r i).toNat := by simp only [BL]; rw [if_pos (by simp only [As, rTo] at hft ⊢; omega)]
   constructor
   ·intro h1
    have e : A0 r w.1 i = ⟨rTo r i, As r i, -(po r i).co, i⟩ := by simp [A0, h1]
    rw [e] at hs
    simp only [e1, e2] at hs
    omega
   ·intro h0
    have e : A0 r w.1 i = ⟨As r i, rTo r i, (po r i).co, i⟩ := by simp [A0, h0]
    rw [e] at hs
    simp only [e1, e2] at hs
    omega
  ·rw [P8 hft]
   exact ⟨fun h1 => absurd (hw.lit i h1).2 hft, fun _ => hp.2.2.2.2.1⟩)
 have hs := KR r (EZ f r.pl.toNat) w.1 r.ps.length
 have he := TX (l := EZ f r.pl.toNat) (g := fun p : Nat => litP r w.1 r.ps.length p) (h := fun _ => r.de + 1) (EZ f r.pl.toNat).length (fun p hp => by
  rw [hlen] at hp
  have hn := h.net p hp
  simp only [Fg] at hn
  obtain ⟨_, _, hwr⟩ := h.diff hr hp
  rw [KS hp, Option.getD_some, hwr]
  by_cases hb : 0 < w.2 p
  ·have hs := h.rc _ (Ao.2 (.inr (.inl ⟨p, hp, hb, rfl⟩)))
   have e : ((p : Int) + 1).toNat = p + 1 := by omega
   simp only [e, Int.toNat_natCast, Int.add_zero] at hs
   have e1 : BL r f (p + 1) = f (p + 1) := by simp only [BL]; rw [if_pos (by omega)]
   have e2 : BL r f p = f p := by simp only [BL]; rw [if_pos (by omega)]
   rw [e1, e2] at hs
   obtain ⟨h0, _, _⟩ := h.diff hr hp
   have : f (p + 1) - f p = 0 := by omega
   rw [this]; simp
  ·have := hw.b0 p
   rw [show litP r w.1 r.ps.length p = r.de + 1 by omega])
 rw [he, GP _ _ _ (Nat.le_refl _), List.take_length] at hs
 omega
theorem KU {f : Nat → Int} {x : Int} : ∀ {m : Nat}, x ∈ DC f m ↔ ∃ i : Nat, i < m ∧ x = i ∧ f i = 1
 | 0 => by simp [DC]
 | m + 1 => by
  simp only [DC, List.mem_append, KU (m := m)]
  constructor
  ·rintro (⟨i, h1, h2, h3⟩ | h)
   ·exact ⟨i, by omega, h2, h3⟩
   ·split at h
    ·rename_i h1; exact ⟨m, by omega, by simpa using h, h1⟩
    ·simp at h
  ·rintro ⟨i, h1, h2, h3⟩
   by_cases e : i = m
   ·subst e; right; rw [if_pos h3]; simp [h2]
   ·exact .inl ⟨i, by omega, h2, h3⟩
theorem KV (f : Nat → Int) : ∀ m : Nat, FA (DC f m) m = true
 | 0 => rfl
 | m + 1 => by
  have ih := KV f m
  have snoc : ∀ {l : List Int} {a n m : Int}, Bk l a n = true → a < m → n ≤ m → Bk (l ++ [m]) a (m + 1) = true := by
   intro l
   induction l with
   | nil => intro a n m _ h1 _; simp [Bk]; omega
   | cons x l ih =>
    intro a n m h h1 h2
    simp only [Bk, Bool.and_eq_true, decide_eq_true_eq, List.cons_append] at h ⊢
    exact ⟨by omega, ih h.2 (by omega) h2⟩
  have more : ∀ {l : List Int} {a n m : Int}, Bk l a n = true → n ≤ m → Bk l a m = true := by
   intro l
   induction l with
   | nil => intro a n m _ _; rfl
   | cons x l ih =>
    intro a n m h h1
    simp only [Bk, Bool.and_eq_true, decide_eq_true_eq] at h ⊢
    exact ⟨by omega, ih h.2 h1⟩
  simp only [DC]
  split
  ·exact snoc (m := (m : Int)) ih (by omega) (Int.le_refl _)
  ·rw [List.append_nil]; exact more ih (by omega)
theorem aC6 {f : Nat → Int} (hf : ∀ i, f i = 0 ∨ f i = 1) (m : Nat) {i : Nat} (hi : i < m) : ind (DC f m) i = f i := by
 unfold ind
 rcases hf i with h | h
 ·rw [if_neg, h]
  rw [KU]
  rintro ⟨j, h1, h2, h3⟩
  have : i = j := by omega
  subst this
  rw [h] at h3; exact absurd h3 (by decide)
 ·rw [if_pos, h]
  exact KU.2 ⟨i, hi, rfl, h⟩
theorem U6 {r : Rd} (hr : OkR r) (f : Nat → Int) : DB r (DC f r.ps.length) = 0 := by
 unfold DB
 rw [if_neg (by simpa using hr.zero), KV]; rfl
theorem U7 {r : Rd} {f g : Nat → Int} (p : Int) (h : ∀ i, i < r.ps.length → f i = g i) : litP r f r.ps.length p = litP r g r.ps.length p := KL p _ h
theorem Ed {r : Rd} {l : List Int} : CJ r l = true ↔ ∀ p : Nat, p < r.pl.toNat → r.de < litP r (ind l) r.ps.length p := by
 rw [CJ, List.all_eq_true]
 constructor
 ·intro h p hp
  have := h (litP r (ind l) r.ps.length p) (List.mem_map.2 ⟨p, by simpa using hp, rfl⟩)
  simpa using this
 ·intro h x hx
  obtain ⟨p, hp, rfl⟩ := List.mem_map.1 hx
  simpa using h p (by simpa using hp)
theorem aFr {r : Rd} {l : List Int} {ch : List Int} (hr : OkR r) (hl : (l.length : Int) = r.pl) (hx : OkX l) (hh : CJ r ch = true) : KO r l r.ps.length ≤ costL r ch :=
 U5 hl (fun x h => (hx x h).1) (fun i => by unfold ind; split <;> simp) (fun p hp => by have := Ed.1 hh p (by omega); omega)
theorem aHU : ∀ i, 0 ≤ zw.1 i ∧ zw.1 i ≤ 1 := fun i => by simp [zw, zf]
structure aFs (r : Rd) (c : List Int) (n : Int) (pr : List Int) : Prop where
 ch : DB r c = 0
 hold : CJ r c = true
 cost : costL r c = n
 prX : OkX pr
 prL : (pr.length : Int) = r.pl
 bound : KO r pr r.ps.length = n
theorem Sd {r : Rd} (hr : OkR r) : ∃ (m : Nat) (b : Bool) (w : W) (f : Nat → Int), Eb r m (r.de.toNat + 1) zw zf = some (b, w, f) ∧ (∀ i, 0 ≤ w.1 i ∧ w.1 i ≤ 1) ∧
  (b = true → aFs r (DC w.1 r.ps.length) (costP r w.1 r.ps.length) (EZ f r.pl.toNat)) ∧ (b = false → ∀ ch, CJ r ch = false) := by
 have p1 := hr.p1
 obtain ⟨m, ⟨b, w, f⟩, h1, h2, h3⟩ := aC4 hr
 refine ⟨m, b, w, f, h1, MV h1 aHU, fun hb => ?_, fun hb ch => ?_⟩
 ·obtain ⟨⟨N, hw⟩, a2, a3, a4⟩ := h2 hb
  have hO : Opt r w f := ⟨⟨N, hw⟩, a2, a3, a4⟩
  have hind : ∀ i, i < r.ps.length → ind (DC w.1 r.ps.length) i = w.1 i := fun i hi => aC6 hw.st _ hi
  refine ⟨U6 hr _, Ed.2 (fun p hp => ?_), MS _ hind, hO.prices hr, by rw [HA]; omega, (hO.cost hr).symm⟩
  rw [U7 _ hind]
  have this : Fg r w p = r.de + 1 := a2 p hp
  have hb0 : 0 ≤ w.2 p := hw.b0 p
  simp only [Fg] at this
  omega
 ·obtain ⟨p, hp, hc⟩ := h3 hb
  cases hh : CJ r ch with
  | false => rfl
  | true =>
   have := Ed.1 hh p hp
   have hle : ∀ m, litP r (ind ch) m p ≤ litP r aC0 m p := by
    intro m
    induction m with
    | zero => exact Int.le_refl _
    | succ m ih =>
     simp only [litP]
     have := F5 ch m
     split
     ·simp only [aC0]; omega
     ·omega
   have := hle r.ps.length
   omega
end Go.Proofs.YtfgdbeijjbijnaaGreatDoor
set_option linter.unusedSimpArgs false
set_option linter.unusedVariables false
set_option maxRecDepth 100000
namespace Go.Proofs.YtfgdbeijjbijnaaGreatDoor
open Go Go.Abs Go.Proofs
theorem IK {r : Rd} (hr : OkR r) : ∃ (b : Bool) (c pr : List Int) (n : Int), Ae Tryz.prog 30 [BF r] GH (one (.tup [ints c, I n, I (if b then 0 else 18)]) GH) ∧
  Ae Tryz.prog 35 [BF r] GH (one (.tup [ints pr, I (if b then 0 else 18)]) GH) ∧ (b = true → aFs r c n pr) ∧ (b = false → ∀ ch, CJ r ch = false) := by
 obtain ⟨m, b, w, f, h1, h2, h3, h4⟩ := Sd hr
 refine ⟨b, _, _, _, Sc r m b w f hr h1 h2, aC3 r m b w f hr h1, fun hb => ?_, h4⟩
 subst hb
 simpa using h3 rfl
end Go.Proofs.YtfgdbeijjbijnaaGreatDoor
set_option linter.unusedSimpArgs false
set_option linter.unusedVariables false
set_option maxRecDepth 100000
namespace Go.Proofs.YtfgdbeijjbijnaaGreatDoor
open Go Go.Abs Go.Proofs
def nn (a : Int) : Nat → Int × Int
 | 0 => (a, 1)
 | _ => (1, 0)
end Go.Proofs.YtfgdbeijjbijnaaGreatDoor
set_option linter.unusedSimpArgs false
set_option linter.unusedVariables false
set_option maxRecDepth 100000
namespace Go.Proofs.YtfgdbeijjbijnaaGreatDoor
open Go Go.Abs Go.Proofs
end Go.Proofs.YtfgdbeijjbijnaaGreatDoor
set_option maxRecDepth 100000
namespace Go.Proofs.YtfgdbeijjbijnaaGreatDoor
open Go Go.Abs Go.Proofs
noncomputable def fnA : List (List Func) := [[Tryz.f0, Tryz.f1, Tryz.f2, Tryz.f3, Tryz.f4, Tryz.f5, Tryz.f6, Tryz.f7, Tryz.f8, Tryz.f9, Tryz.f10, Tryz.f11, Tryz.f12, Tryz.f13, Tryz.f14, Tryz.f15],
 [Tryz.f16, Tryz.f17, Tryz.f18, Tryz.f19, Tryz.f20, Tryz.f21, Tryz.f22, Tryz.f23, Tryz.f24, Tryz.f25, Tryz.f26, Tryz.f27, Tryz.f28, Tryz.f29, Tryz.f30, Tryz.f31],
 [Tryz.f32, Tryz.f33, Tryz.f34, Tryz.f35, Tryz.f36, Tryz.f37, Tryz.f38, Tryz.f39, Tryz.f40, Tryz.f41, Tryz.f42, Tryz.f43, Tryz.f44, Tryz.f45, Tryz.f46, Tryz.f47],
 [Tryz.f48, Tryz.f49, Tryz.f50, Tryz.f51, Tryz.f52, Tryz.f53, Tryz.f54, Tryz.f55, Tryz.f56, Tryz.f57, Tryz.f58, Tryz.f59, Tryz.f60, Tryz.f61, Tryz.f62, Tryz.f63],
 [Tryz.f64, Tryz.f65, Tryz.f66, Tryz.f67, Tryz.f68, Tryz.f69, Tryz.f70, Tryz.f71, Tryz.f72, Tryz.f73, Tryz.f74, Tryz.f75, Tryz.f76, Tryz.f77, Tryz.f78, Tryz.f79],
 [Tryz.f80, Tryz.f81, Tryz.f82, Tryz.f83, Tryz.f84, Tryz.f85, Tryz.f86, Tryz.f87, Tryz.f88, Tryz.f89, Tryz.f90, Tryz.f91, Tryz.f92, Tryz.f93, Tryz.f94, Tryz.f95],
 [Tryz.f96, Tryz.f97, Tryz.f98, Tryz.f99, Tryz.f100, Tryz.f101, Tryz.f102, Tryz.f103, Tryz.f104, Tryz.f105, Tryz.f106, Tryz.f107, Tryz.f108, Tryz.f109, Tryz.f110, Tryz.f111],
 [Tryz.f112, Tryz.f113, Tryz.f114, Tryz.f115, Tryz.f116, Tryz.f117, Tryz.f118, Tryz.f119, Tryz.f120, Tryz.f121, Tryz.f122, Tryz.f123, Tryz.f124, Tryz.f125, Tryz.f126, Tryz.f127],
 [Tryz.f128, Tryz.f129, Tryz.f130, Tryz.f131, Tryz.f132, Tryz.f133, Tryz.f134, Tryz.f135, Tryz.f136, Tryz.f137, Tryz.f138, Tryz.f139, Tryz.f140, Tryz.f141, Tryz.f142, Tryz.f143],
 [Tryz.f144, Tryz.f145, Tryz.f146, Tryz.f147, Tryz.f148, Tryz.f149, Tryz.f150, Tryz.f151, Tryz.f152, Tryz.f153, Tryz.f154, Tryz.f155, Tryz.f156, Tryz.f157, Tryz.f158, Tryz.f159],
 [Tryz.f160, Tryz.f161, Tryz.f162, Tryz.f163, Tryz.f164, Tryz.f165, Tryz.f166, Tryz.f167, Tryz.f168, Tryz.f169, Tryz.f170, Tryz.f171, Tryz.f172, Tryz.f173, Tryz.f174, Tryz.f175],
 [Tryz.f176, Tryz.f177, Tryz.f178, Tryz.f179, Tryz.f180, Tryz.f181, Tryz.f182, Tryz.f183, Tryz.f184, Tryz.f185, Tryz.f186, Tryz.f187, Tryz.f188, Tryz.f189, Tryz.f190, Tryz.f191],
 [Tryz.f192, Tryz.f193, Tryz.f194, Tryz.f195, Tryz.f196, Tryz.f197, Tryz.f198, Tryz.f199, Tryz.f200, Tryz.f201, Tryz.f202, Tryz.f203, Tryz.f204, Tryz.f205, Tryz.f206, Tryz.f207],
 [Tryz.f208, Tryz.f209, Tryz.f210, Tryz.f211, Tryz.f212, Tryz.f213, Tryz.f214, Tryz.f215, Tryz.f216, Tryz.f217, Tryz.f218, Tryz.f219, Tryz.f220, Tryz.f221, Tryz.f222, Tryz.f223],
 [Tryz.f224, Tryz.f225, Tryz.f226, Tryz.f227, Tryz.f228, Tryz.f229, Tryz.f230, Tryz.f231, Tryz.f232, Tryz.f233, Tryz.f234, Tryz.f235, Tryz.f236, Tryz.f237, Tryz.f238, Tryz.f239],
 [Tryz.f240, Tryz.f241, Tryz.f242, Tryz.f243, Tryz.f244, Tryz.f245, Tryz.f246, Tryz.f247, Tryz.f248, Tryz.f249, Tryz.f250, Tryz.f251, Tryz.f252, Tryz.f253, Tryz.f254, Tryz.f255],
 [Tryz.f256, Tryz.f257, Tryz.f258, Tryz.f259, Tryz.f260, Tryz.f261, Tryz.f262, Tryz.f263, Tryz.f264, Tryz.f265, Tryz.f266, Tryz.f267, Tryz.f268, Tryz.f269, Tryz.f270, Tryz.f271],
 [Tryz.f272, Tryz.f273, Tryz.f274, Tryz.f275, Tryz.f276, Tryz.f277, Tryz.f278, Tryz.f279, Tryz.f280, Tryz.f281, Tryz.f282, Tryz.f283, Tryz.f284, Tryz.f285, Tryz.f286, Tryz.f287],
 [Tryz.f288, Tryz.f289, Tryz.f290, Tryz.f291, Tryz.f292, Tryz.f293, Tryz.f294, Tryz.f295, Tryz.f296, Tryz.f297, Tryz.f298, Tryz.f299, Tryz.f300, Tryz.f301, Tryz.f302, Tryz.f303],
 [Tryz.f304, Tryz.f305, Tryz.f306, Tryz.f307, Tryz.f308, Tryz.f309, Tryz.f310, Tryz.f311, Tryz.f312, Tryz.f313, Tryz.f314, Tryz.f315, Tryz.f316, Tryz.f317, Tryz.f318, Tryz.f319],
 [Tryz.f320, Tryz.f321, Tryz.f322, Tryz.f323, Tryz.f324, Tryz.f325, Tryz.f326, Tryz.f327, Tryz.f328, Tryz.f329, Tryz.f330, Tryz.f331, Tryz.f332, Tryz.f333, Tryz.f334, Tryz.f335],
 [Tryz.f336, Tryz.f337, Tryz.f338, Tryz.f339, Tryz.f340, Tryz.f341, Tryz.f342, Tryz.f343, Tryz.f344, Tryz.f345, Tryz.f346, Tryz.f347, Tryz.f348, Tryz.f349, Tryz.f350, Tryz.f351],
 [Tryz.f352, Tryz.f353, Tryz.f354, Tryz.f355, Tryz.f356, Tryz.f357, Tryz.f358, Tryz.f359, Tryz.f360, Tryz.f361, Tryz.f362, Tryz.f363, Tryz.f364, Tryz.f365, Tryz.f366, Tryz.f367],
 [Tryz.f368, Tryz.f369, Tryz.f370, Tryz.f371, Tryz.f372, Tryz.f373, Tryz.f374, Tryz.f375, Tryz.f376, Tryz.f377, Tryz.f378, Tryz.f379, Tryz.f380, Tryz.f381, Tryz.f382, Tryz.f383],
 [Tryz.f384, Tryz.f385, Tryz.f386, Tryz.f387, Tryz.f388, Tryz.f389, Tryz.f390, Tryz.f391, Tryz.f392, Tryz.f393, Tryz.f394, Tryz.f395, Tryz.f396, Tryz.f397, Tryz.f398, Tryz.f399],
 [Tryz.f400, Tryz.f401, Tryz.f402, Tryz.f403, Tryz.f404, Tryz.f405, Tryz.f406, Tryz.f407, Tryz.f408, Tryz.f409, Tryz.f410, Tryz.f411, Tryz.f412, Tryz.f413, Tryz.f414, Tryz.f415],
 [Tryz.f416, Tryz.f417, Tryz.f418, Tryz.f419, Tryz.f420, Tryz.f421]]
def ktA : List (List (List Nat)) := [[[], [], [], [30, 2199023255582, 256, 534, 3606, 15894, 65046, 261142, 40564819207303340847894502659094, 256, 868374, 170141183460469231731687303715884974102, 256, 1918998, 4024342, 93536104789177786765035829293842113257979683618838, 256, 13451286, 30228502, 383123885216472214589586756787577295904684780576129046, 122503184, 256, 52656145834278593348959013841835216159447547700274555627173134336, 256, 210624583337114373395836055367340864637790190801098222508639600640, 256, 256], [254, 144115188075856126, 16384, 33022, 9223372036854808830, 33022, 2361183241434822639870, 16384, 65788, 196856, 983288, 2031864, 4835703278458516700856568, 2031864, 8323320, 41538374868278621028243970637889784, 16384, 21267647932558653966460912964487545080, 2031864, 174224571863520493293247799005065326297336, 2031864, 5575186299632655785383929568162090377281656, 16384, 9175152, 25952336, 59506768, 22835963083295358096932575511191922182183452752, 16384, 126615632, 730750818665451459101842416358141509828092887120, 126615632, 529268816, 529268816, 126615632, 595591168, 3816816640, 16701718528, 51061456896, 187963539456, 118571099379011784113736688648896417641748464297615937576404566024103050178723840, 16384, 280305336320, 948568795032094272909893509191171341133987714380927500611236528192824638315692032, 280305336320, 1942668892225729070919461906823518906642406839052139521251812409738904285485513834496, 16384, 3298568437760, 29686813949952, 16384], [7, 135, 1073741959, 64, 385, 897, 1921, 4398046513025, 1921, 3969, 3969, 1921, 13184, 57728, 516480, 9903520314283042199193469312, 64, 158456325028528675187088376192, 64, 999808, 2048384, 81129638414606681695789007192448, 2048384, 2048384, 7208960, 64], [6, 16777222, 16, 36, 100, 228, 8589934820, 228, 484, 484, 228, 548, 1152921504606847524, 16, 6692, 55844, 19342813113834066795321892, 16, 77371252455336267181214244, 16, 88612, 2535301200456458802993406495264, 16, 215584, 477728, 1002016, 40564819207303340847894503574048, 1002016, 664613997892457936451903530141174304, 16, 1002016, 1002016, 1333280, 5846006549323611672814739330865132078623730190368, 16, 374144419156711147060143317175368453031918731020320, 16, 2117632, 16], [2, 4], [14, 526, 64, 32782, 64, 64], [2037035976334486086268445688409378161051468393665936250636140449354381299763336706183397376, 1], [22, 54, 118, 246, 33014, 246, 246, 246, 374, 137438953846, 374, 886, 1910, 140737488357238, 1910, 1910, 1910, 374, 16], [6, 194, 65730, 48, 48], [28, 788, 1049364, 192, 1300, 67110164, 192, 2048, 192], [28, 16], [2, 8194, 4, 10, 262154, 10, 134217738, 4, 4], [12, 200, 16584, 48, 524360, 48, 48]],
 [[28, 464, 524752, 48, 1552, 34359738896, 48, 48], [14, 390, 1048966, 64, 1024, 1073741824, 64, 64], [78, 838, 16778054, 192, 3392, 68719478080, 192, 5440, 246290604627264, 527765581337920, 246290604643648, 246290604627264, 246290604627264, 2305843009213699392, 5440, 4160, 192], [56, 16440, 64, 36028797018964024, 64, 416, 928, 9223372036854776736, 928, 38685626227668133590598560, 64, 1312, 618970019642690137449563424, 1312, 2596148429267413814265248164611360, 64, 64], [12, 44, 4194348, 16, 108, 16777324, 108, 17179869292, 16, 172, 137438953644, 172, 36893488147419103404, 16, 428, 147573952589676413356, 428, 162259276829213363391578010288556, 16, 16], [3, 1027, 16, 35, 16419, 35, 33554467, 16, 16], [56, 928, 1952, 8390560, 64, 134219168, 64, 70368744177664, 64, 64], [2, 4], [2037035976334486086268445688409378161051468393665936250636140449354381299763336706183397376, 1], [6, 102, 230, 486, 1049062, 486, 2022, 4294969318, 17592186046438, 2022, 2022, 4070, 4611686018427391974, 2534, 486, 16], [22, 86, 1110, 48, 32790, 48, 214, 2199023255766, 48, 48], [6, 38, 102, 2150, 102, 262246, 102, 16], [6, 192, 32960, 48, 48], [6, 196, 32964, 48, 4194368, 48, 48], [2, 34, 4130, 28, 64, 320, 4194368, 28, 28], [1, 65537, 12, 17, 524305, 17, 17, 49, 113, 67108977, 113, 1009, 25769804785, 60129543153, 25769805809, 2224793061361, 25769804785, 25769804785, 9007199254741233, 753, 753, 1009, 12]],
 [[3, 4099, 48, 2097155, 48, 67, 1073741891, 48, 131, 129, 1924145348736, 4123168604288, 1924145349248, 1924145352320, 1924145348736, 1924145348736, 48], [6, 518, 48, 65542, 48, 48], [2, 4], [2, 18, 4114, 12, 98, 2097186, 12, 162, 25165984, 58720416, 25166240, 25165984, 25165984, 12], [6, 70, 32838, 48, 524294, 48, 33554438, 48, 134, 390, 61572651155842, 131941395333506, 61572651157378, 61572651163010, 288291948802874754, 61572651155842, 61572651155842, 48], [22, 48], [5, 4], [2, 10, 32778, 4, 524298, 4, 26, 2097178, 26, 2147483674, 4, 42, 17179869226, 42, 8796093022250, 4, 106, 35184372088938, 106, 144115188075855978, 4, 4], [6, 2050, 16, 34, 32802, 34, 536870946, 16, 16], [2037035976334486086268445688409378161051468393665936250636140449354381299763336706183397376, 1], [2037035976334486086268445688409378161051468393665936250636140449354381299763336706183397376, 2, 14, 62, 254, 1278, 3324, 7420, 64764, 261372, 1047804, 4193532, 1], [2037035976334486086268445688409378161051468393665936250636140449354381299763336706183397376, 30, 126, 510, 2046, 4094, 8186, 24570, 122874, 516090, 2088954, 16769018, 170141183460469231731687303715891086010, 1, 1], [14, 526, 64, 64], [22, 86, 210, 131282, 48, 338, 29360464, 62914896, 29361488, 29362512, 4324329808, 48, 29360464, 48], [6, 102, 14680164, 31457380, 14680548, 14680164, 14680164, 1604, 7680, 15872, 6917529027641097728, 16140901064495873536, 6917529027641114112, 6917529027641097728, 6917529027641097728, 16], [12, 44, 1073741836, 16, 60129542156, 128849018892, 60129542348, 2251859943227468, 16, 63050454912729164, 135108048950657100, 63050454912729932, 77371252518386722093924428, 16, 63050454912729164, 60129542156, 16]],
 [[70, 198, 14532, 30916, 15300, 277444, 801732, 278468, 277444, 277444, 14532, 64], [7, 32], [1, 17, 4, 4], [2, 16386, 4, 10, 524298, 10, 268435466, 4, 4294967298, 4, 18, 137438953490, 18, 70368744177682, 4, 4], [2, 18, 2066, 12, 32, 117440544, 251658272, 117440672, 117440544, 117440544, 12], [28, 64], [140737479967608, 140737479967704, 140737479975896, 64, 140737484162008, 472, 840, 70368744177728, 64, 64], [12, 392, 65928, 112, 896, 112], [1180590494817504469011, 1180590494817504469075, 1180590494817511809107, 1180590494817520197715, 1180590494817511809363, 1180590494817981571411, 1180590494818518442323, 1180590494817981572435, 1180590494817981571411, 1180590494817981571411, 1180590494817511809107, 1180590525603830046803, 1180590560788202135635, 1180590525603830050899, 1180591088553783468115, 1156686232428627, 1180590525603830046803, 1180590525603830046803, 16467, 49235, 16528282690043758297107, 35417748621522339151891, 16528282690043758428179, 16528282690043759214611, 19359341396524110553989139, 49168, 16528282690043758297107, 48], [260047638, 260047702, 260178774, 48, 260047830, 264242128, 16777680, 976, 208, 48], [3, 35, 34, 114720, 245792, 114912, 114720, 114720, 16], [1, 9, 456, 968, 488, 456, 456, 4], [12, 140, 16, 16], [2, 10, 26, 4122, 26, 26, 4], [2, 10, 32778, 4, 26, 262170, 26, 4503599627370522, 4, 9671406556917033397649418, 4, 42, 77371252455336267181195306, 42, 39614081257132168796771975210, 4, 66, 1267650600228229401496703205442, 66, 83076749736557242056487941267521602, 4, 4], [2, 24, 56, 16440, 56, 33554488, 4, 4]],
 [[2037035976334486086268445688409378161051468393665936250636140449354381299763336706183397376, 1], [2037035976334486086268445688409378161051468393665936250636140449354381299763336706183397376, 2, 14, 62, 190, 1982, 16318, 65470, 131006, 524222, 4194238, 10889035741470030830827987437816584472834, 1, 5900296, 14286888, 30933160, 1], [2, 50, 114, 131186, 114, 114, 178, 1073742002, 178, 434, 178, 562, 18446744073709552178, 562, 1586, 1180591620717411305010, 1586, 7730, 154742504910672534362398258, 7730, 7730, 1586, 12], [6, 38, 8230, 38, 16], [2, 10, 32778, 4, 26, 917530, 1966106, 917594, 537788490, 4, 917530, 917530, 4294967298, 4, 576460752303423488, 4, 4], [2, 18, 274, 12, 8194, 12, 12], [19, 16], [6, 70, 8262, 48, 1048582, 48, 130, 58720384, 125829248, 58720896, 58720384, 58720384, 48], [1, 9, 393225, 917513, 393241, 12976153, 29753369, 12976185, 549847097, 12976153, 12976153, 393225, 4], [1, 129, 1, 9, 25, 32793, 25, 25, 4], [1, 9, 7177, 15369, 7225, 7177, 7177, 4], [2, 10, 42, 4, 1024, 4, 4], [2, 4], [5, 21, 49173, 114709, 49173, 49205, 536920117, 12, 49269, 137439002741, 49653, 35184372138229, 49397, 562949953470709, 12, 49333, 49333, 49269, 49173, 12], [1, 9, 3081, 7177, 3097, 1051673, 3081, 3081, 4], [28, 64]],
 [[6, 38, 16, 4102, 16, 65536, 16, 16], [6, 134, 16, 32768, 16, 16], [6, 36, 100, 8292, 100, 4194404, 16, 16], [6, 38, 102, 1126, 102, 102, 16], [2, 258, 4, 68719476738, 4, 10, 2199023255562, 10, 26, 37778931862957161709578, 4, 4], [1, 129, 1, 9, 25, 32793, 25, 25, 4], [1, 129, 1, 9, 25, 32793, 25, 25, 4], [1, 9, 456, 968, 488, 456, 456, 4], [3, 48], [78, 334, 131406, 192, 4194382, 192, 134217806, 192, 582, 60129542724, 128849019460, 60129544772, 60129548868, 60129567300, 1125960036393540, 192, 60129542724, 60129542724, 192], [6, 4], [6, 16], [2037035976334486086268445688409378161051468393665936250636140449354381299763336706183397376, 1], [2037035976334486086268445688409378161051468393665936250636140449354381299763336706183397376, 2, 14, 62, 254, 510, 2038, 8182, 40950, 499702, 2072566, 5070602400912917605986813545046, 1, 7014994, 1], [1, 1], [12, 204, 131276, 48, 260, 48]],
 [[19, 16], [35150012351494, 35150012351686, 35150012417222, 48, 35150013400130, 48, 35150146569282, 48, 35150012351810, 35150012351808, 35150012352320, 35167192221504, 1856, 1099511629312, 512, 48], [8795958819854, 8795958819948, 8795959868524, 28, 8795958820012, 8795958820780, 8796025929644, 1964, 3980, 16268, 137438961548, 780, 780, 35184372089612, 28, 28], [56, 432, 131504, 64, 2097152, 64, 64], [1, 1025, 12, 17, 6160, 14352, 6160, 6160, 12], [2, 34, 12, 4098, 12, 18, 12], [5, 53, 2147483701, 12, 85, 213, 469, 103079215573, 240518169045, 103079216085, 103079215573, 103079215573, 469, 469, 1493, 576460752303424981, 1493, 1493, 36893488147419104725, 469, 2261, 4309, 4309, 12501, 151115727451828646850773, 12501, 67699845898419233783558357, 145071098353755500964753621, 67699845898419233783591125, 67699845898419233783558357, 67699845898419233783558357, 69324642199981295394350968917, 148552804714245632987894919253, 69324642199981295394351099989, 69324642199981295394351624277, 5192366183177027609825890680320085, 69324642199981295394351099989, 69324642199981295394350968917, 69324642199981295394350968917, 1056788, 8166776806102523123120990578362438131716, 19055812547572553953948978016179020898308, 8166776806102523123120990578362440228868, 8166776806102523123120990578362444423172, 313059777567263386386304638837226761887748, 661508921294304372972800236847357410418692, 313059777567263386386304638837226778664964, 313059777567263386386304638837226761887748, 313059777567263386386304638837226761887748, 8166776806102523123120990578362438131716, 8166776806102523123120990578362438131716, 12], [3, 1027, 16, 35, 16419, 35, 33554467, 16, 16], [3, 1027, 16, 35, 16419, 35, 33554467, 16, 16], [56, 568, 64, 2097208, 64, 17179869184, 64, 64], [2, 4098, 4, 1048578, 4, 10, 33554442, 10, 68719476746, 4, 18, 2199023255570, 18, 50, 140737488355378, 50, 590295810358705651762, 4, 66, 18889465931478580854850, 66, 194, 450, 1208925819614629174706626, 450, 450, 19807040628566084398385987650, 4, 4], [2, 10, 26, 2074, 26, 58, 65594, 58, 2147483706, 4, 4], [1, 1], [19, 16], [2, 48, 32816, 12, 80, 7340096, 15728704, 7340352, 7340096, 7340096, 12], [19, 16]],
 [[22, 210, 65746, 48, 2097234, 48, 67108946, 48, 336, 962072674576, 2061584302352, 962072675600, 71330816853264, 48, 962072674576, 48], [56, 928, 1952, 8390560, 64, 134219168, 64, 1152921504606846976, 64, 64], [309475565088379329434476604, 309475565088379329434477040, 309475565088379329468031472, 48, 309475565088590435667009776, 309475565088871910643720432, 309475565088590435667010800, 309475565104353034362807536, 309475565122367432872289520, 309475565104353034362811632, 309475566257274538969658608, 48, 309475565104353034362807536, 309475565088590435667009776, 309480287454862199079690416, 308880546911537754137551024, 309182778366441411431227440, 24624, 98352, 77371252455336267181228080, 48, 48], [2595514603967299699564499816677404, 2595514603967299699564499816677840, 2595514603967299699564500890419664, 48, 2595514603967299699564499816678608, 2595514603967299699634868560855248, 48, 2595514603967299699564499816679632, 2595514603967742421422268845918224, 2595514603968332717232627551569936, 2595514603967742421422268845926416, 2595514604000798986802356362422288, 2595514604038577918665313524131856, 2595514604000798986802356362455056, 2595514608232039355453558473926672, 2595514613067742633912075172751376, 2595514608232039355453558474057744, 2595514608232039355453558474188816, 2595514608232039355453558473926672, 2595514608232039355453558473926672, 2595831516650856044152730538256400, 2434522977771813852812275052226576, 2514384965586192305106567357278224, 2595514604000798986802356362422288, 2595514604000798986802356362422288, 2595514604000798986802356362422288, 2595514603967742421422268845918224, 48], [1, 2097153, 28, 33, 29360160, 62914592, 29360288, 29360928, 17209230112, 28, 29360160, 29360160, 1056, 30786325578784, 65970697667616, 30786325584928, 31555983717178400, 67584780736142368, 31555983717202976, 31555983717252128, 4722398038853362400288, 31555983717178400, 31555983717178400, 30786325578784, 58028439341502200385897504, 135399691796838467567092768, 58028439341502200386028576, 1914938498269572612734714912, 4390818576840333162532963360, 1914938498269572612734977056, 318827588555326922986910778400, 28, 1914938498269572612734714912, 58028439341502200385897504, 28], [3, 1027, 16, 35, 16419, 35, 33554467, 16, 16], [56, 1080, 64, 2199023255608, 64, 9007199254740992, 64, 64], [2, 10, 32778, 4, 33554434, 4, 18, 7516192784, 16106127376, 7516192848, 7516192784, 7516192784, 8796093022208, 4, 4], [6, 34, 16, 8192, 16, 16], [14, 64], [14, 64], [3, 16], [3, 8], [28, 64], [1, 4], [7, 135, 2183, 135, 140737488355463, 64, 64]],
 [[2, 131074, 4, 67108864, 4, 4], [1, 8, 520, 4, 24, 24, 4], [1, 9, 3592, 7688, 3640, 3592, 3592, 4], [528482563, 528482595, 528711971, 528974115, 528712099, 532906275, 8618275, 528711971, 528711971, 35, 544, 1568, 30786325579296, 65970697668128, 30786325585440, 30786325585440, 147573983376001992224, 30786325579296, 30786325579296, 37778931862957161710592, 1024, 16], [3, 16], [14, 16], [14, 8], [2, 4], [28, 16], [12, 16], [12, 16], [35, 290, 768, 192], [12, 16], [1, 9, 25, 65561, 25, 70368744177689, 25, 41, 105, 233, 489, 9223372036854776297, 489, 2361183241434822607337, 1001, 2535301200456458802993406411241, 489, 10384593717069655257060992658440361, 4, 41], [2, 10, 26, 16410, 26, 58, 122, 1048698, 122, 250, 1073742074, 250, 250, 26, 4], [6, 16]],
 [[1, 1], [1, 3, 3, 1], [30, 1564, 525852, 256, 8389132, 256, 492581209244164, 1055531162665476, 492581209248260, 288722957360960004, 256, 492581209244164, 492581209244164, 1180591620717411303424, 256, 256], [6, 390, 8388998, 112, 646, 469762694, 1006633606, 469765766, 69189240454, 642, 469762694, 1099511628418, 112, 4738, 30786325582464, 65970697671296, 30786325598848, 30786325631616, 9037985580339840, 30786325582464, 30786325582464, 112], [3, 1027, 16, 35, 16419, 35, 33554467, 16, 16], [6, 8198, 48, 1048582, 48, 70, 198, 16777414, 198, 274877907142, 48, 198, 326, 9007199254741318, 326, 838, 1862, 576460752303425350, 1862, 36893488147419105094, 1862, 326, 48], [30, 16414, 256, 1099511627806, 256, 542, 17592186044958, 542, 9007199254741534, 256, 1054, 144115188075856926, 1054, 37778931862957161710622, 256, 256], [6, 16], [3, 16], [1, 4], [6, 14, 22, 6166, 14358, 6198, 6262, 2103414, 6262, 134223990, 20, 6166, 4], [2, 10, 8, 8, 4], [3, 35, 1826, 3874, 1954, 2099074, 16, 1826, 1826, 16], [7, 388, 64], [6, 8], [28, 64]],
 [[3, 16], [140737486258949, 140737486258965, 140737486259989, 140737486262037, 140737486260021, 140737486259989, 140737486259989, 140737486258965, 140737486259029, 140737486259157, 140737487307733, 140737356235733, 140737486259157, 131943540720597, 132078832190421, 140737486259157, 140737486259157, 703687439680341, 12], [9, 2037035976334486086268445688409378161051468393665936250636140449354381299763336706183397376, 32777, 2037035976334486086268445688409378161051468393665936250636140449354381299763336706183397376, 8589934601, 2037035976334486086268445688409378161051468393665936250636140449354381299763336706183397376], [7, 16], [3, 16], [6, 8], [9, 16], [3, 35, 547, 35, 1099511627811, 16, 16], [6, 38, 102, 16486, 102, 230, 1048806, 230, 536871142, 230, 16], [2, 524288, 4, 4], [3, 16], [2, 4], [28, 220, 976, 48], [2037035976334486086268445688409378161051468393665936250636140449354381299763336706183397376, 6, 30, 126, 510, 2046, 8190, 32766, 131070, 393214, 1], [2037035976334486086268445688409378161051468393665936250636140449354381299763336706183397376, 2, 14, 62, 190, 956, 4028, 16316, 65468, 262076, 1048508, 1298074214633706907132624082654484, 1, 2184468, 1], [2037035976334486086268445688409378161051468393665936250636140449354381299763336706183397376, 2, 14, 62, 254, 1022, 4094, 8190, 16382, 131070, 524286, 4194302, 1]],
 [[1, 3, 3, 1], [14, 774, 525062, 192, 192], [6, 70, 8262, 48, 4194310, 48, 134, 117440646, 251658374, 117441414, 34477179270, 117440646, 117440646, 48], [5, 4], [2, 34, 16777250, 28, 66, 194, 450, 60129542594, 128849019330, 60129544130, 60129545154, 60129542594, 60129542594, 31525197391593922, 67553994410557890, 31525197391606210, 31525197391622594, 31525197391622594, 4722398008067036836290, 31525197391622594, 31525197391720898, 31525197391851970, 4835703309983714090676674, 31525197391851970, 31525197392114114, 4951760157173046296988611010, 31525197392114114, 4436777100798834430435853332930, 9507379501711752036422666154434, 4436777100798834430435854381506, 10389030494170454091491428512821698, 4436777100798834430435853332930, 4436777100798834430435853332930, 664613997892457936483428727531803074, 28, 31525197391593922, 28], [6, 70, 1094, 48, 524294, 48, 48], [3, 1027, 16, 35, 16419, 35, 33554467, 16, 16], [3, 1027, 16, 35, 16419, 35, 33554467, 16, 16], [3, 1027, 16, 35, 16419, 35, 33554467, 16, 16], [6, 70, 32838, 48, 134, 14680194, 31457410, 14680962, 1893728642, 4041212290, 1893731714, 1893728642, 1893728642, 14680194, 140737488355456, 48, 48], [25, 89, 217, 16, 65561, 16, 16], [3, 16], [1, 4], [2, 4], [3, 899, 1923, 963, 33731, 16, 899, 16], [3, 18, 8]],
 [[6, 22, 54, 30, 22, 22, 4], [30, 62, 126, 62, 62, 62, 62], [22, 212, 468, 244, 212, 212, 16], [6, 34, 288, 16, 16], [12, 140, 16, 16], [12, 44, 108, 2156, 108, 108, 16], [2, 10, 26, 1050, 26, 26, 4], [1, 4], [1, 4], [3, 35, 57378, 122914, 57506, 57378, 57378, 16], [28, 92, 220, 852, 2147484500, 852, 144115188075856212, 48, 1104, 3152, 48], [19, 51, 16], [28, 88, 472, 536871256, 48, 784, 48], [19, 531, 19, 51, 115, 131187, 115, 134217843, 115, 16], [12, 128, 16, 16], [12, 108, 2097260, 16, 396, 1099511628172, 16, 16]],
 [[9, 41, 105, 65641, 105, 489, 2025, 140737488357353, 16, 4073, 1180591620717411305449, 16, 1237940039285380274899124329, 16, 16], [3, 16], [3, 8], [6, 16], [3, 387, 899, 419, 65955, 16, 387, 16], [7, 16], [3, 16], [1, 4], [1, 4], [3, 35, 34, 32, 16], [12, 16], [1, 9, 456, 968, 488, 549755814376, 488, 456, 456, 4], [13, 525, 13, 13], [19, 2037035976334486086268445688409378161051468393665936250636140449354381299763336706183397376], [12, 108, 2156, 16, 131084, 16, 16], [5, 13, 1804, 3852, 1836, 50956, 116492, 51148, 50956, 50956, 1804, 4]],
 [[3, 387, 899, 419, 65955, 16, 387, 16], [451, 963, 475, 499, 33554931, 2147484099, 451], [901, 1925, 949, 17333, 50101, 17397, 68719494069, 17333, 901], [56, 64], [12, 32, 16], [28, 16], [14, 64], [3, 35, 547, 35, 131107, 16, 16], [3, 16], [6, 8], [3, 387, 899, 419, 65955, 16, 387, 16], [14, 142, 1048718, 64, 2097166, 64, 64], [5070602400322765910816182632954, 5070602400322765910816182632958, 5070602400322765910816182698494, 5070602400322621795628107301326, 5070602400322621795636696711678, 5070602400322621830812478865918, 5070602400322765910816182632958, 5070602400327377596834610020858, 5070602400322621795628107170242, 5070602400617769700807459996098, 1180591620717411303490, 194, 450, 151115727451828646838722, 450, 450, 567907468902246771870523036008450, 1216944576219100225436835077160962, 567907468902246771870523036009986, 567907468902246771870523036008450, 567907468902246771870523036008450], [7, 16], [3, 387, 899, 419, 65955, 16, 387, 16], [2, 4]],
 [[3, 16], [3, 4], [3, 387, 899, 419, 65955, 16, 387, 16], [2, 4], [12, 16], [3, 387, 899, 419, 65955, 16, 387, 16], [5, 21, 14356, 30740, 14420, 14740, 15252, 14356, 549755828244, 12, 14356, 12], [271, 256], [2037035976334486086268445688409378161051468393665936250636140449354381299763336706183397376, 1], [22, 86, 84, 84, 48], [6, 22, 278, 12, 12], [12, 196, 452, 33220, 48, 524484, 48, 68719476928, 48, 48], [19, 16], [2, 130, 12, 18, 1042, 18, 18, 12], [503316549, 503316677, 12, 503447621, 12, 503316565, 503316597, 520093813, 117, 53, 53, 137438953508, 12, 12], [22, 2070, 48, 65558, 48, 84, 3221225556, 7516192852, 3221225684, 3221225940, 3221225556, 3221225556, 528, 1552, 36028797018965520, 48, 48]],
 [[3, 1027, 16, 35, 16419, 35, 33554467, 16, 16], [2037035976334486086268445688409378161051468393665936250636140449354381299763336706183397376, 1], [3, 66, 65602, 48, 130, 130, 386, 3670400, 7864704, 3671424, 3673472, 3672448, 3670400, 3670400, 48], [42, 298, 16682, 192, 4194346, 192, 522, 192], [35, 291, 33059, 192, 8388643, 192, 515, 1539, 192], [19, 16], [267387651, 267387715, 267404099, 48, 267387779, 267912064, 2097536, 896, 8388992, 128, 48], [1, 513, 12, 262145, 12, 17, 117440529, 251658257, 117440625, 15149826161, 32329695345, 15149826417, 2214173081969, 15149826417, 18014413659308145, 15149826161, 15149826161, 295147905179470266417, 117440529, 117440529, 12], [6, 22, 2070, 12, 38, 102, 196, 12], [5, 4], [7, 8199, 192, 8388615, 192, 263, 134217991, 263, 775, 9007199254741255, 192, 192], [3, 1027, 16, 35, 16419, 35, 33554467, 16, 16], [3, 1027, 16, 35, 16419, 35, 33554467, 16, 16], [3, 1027, 16, 35, 16419, 35, 33554467, 16, 16], [5, 4], [1, 1]],
 [[12, 76, 2124, 48, 48], [6, 52, 4148, 12, 12], [28, 92, 8284, 48, 524316, 48, 412, 134218140, 48, 664, 48], [19, 16], [14, 142, 2190, 64, 8206, 64, 268435456, 64, 64], [1, 3, 3, 1], [6, 134, 2097286, 112, 268435462, 112, 774, 34359739142, 112, 1286, 1649267442950, 3848290698502, 1649267444998, 1649267449094, 1649267457286, 1649267473670, 18016047776955654, 1649267473670, 1649267571974, 1180591622366678809862, 1649267473670, 1649267442950, 1649267442950, 132100, 112], [6, 198, 131270, 48, 326, 2097476, 260, 768, 1610613504, 3758097152, 1610614528, 1610613504, 1610613504, 48], [2, 34, 1058, 28, 64, 65600, 28, 28], [6, 2054, 16, 524294, 16, 38, 16777254, 38, 102, 144115188075855910, 16, 134, 2305843009213694086, 134, 390, 20282409603651670423947251286150, 16, 16], [3, 35, 99, 1123, 99, 99, 16], [14, 4110, 64, 268435470, 64, 398, 910, 4294968206, 910, 910, 910, 38685626227668133590597632, 64, 64], [1, 9, 25, 281, 25, 25, 4], [2, 8194, 4, 10, 524298, 4, 67108866, 4, 2147483648, 4, 4], [2, 10, 3670024, 7864328, 3670056, 7519862824, 16109797416, 7519862952, 7519863208, 7519863080, 30793845440808, 65978217529640, 30793845442344, 30793845440808, 30793845440808, 7519862824, 7519862824, 3670024, 4], [7, 3590, 7686, 3974, 8589938182, 64, 3590, 64]],
 [[19, 16], [7, 261, 64, 64], [2, 4], [2, 10, 4, 258, 4, 131074, 4, 4194306, 4, 67108864, 4, 4], [3, 16], [6, 8], [9, 137, 16, 16], [3, 387, 899, 419, 65955, 16, 387, 16], [515, 49153, 114689, 49161, 1884169, 3981321, 1884201, 538755081, 1884169, 49153], [543, 1567, 13855, 30239, 15903, 13855, 13855, 1537, 1536, 512], [1, 9, 456, 968, 488, 488, 33256, 488, 456, 4], [3, 387, 899, 419, 65955, 16, 387, 16], [6, 8], [3, 387, 899, 419, 65955, 16, 387, 16], [1, 257, 4, 9, 8201, 9, 33554441, 25, 57, 4294967353, 57, 17592186044473, 57, 57, 9, 4, 4], [1, 9, 456, 968, 488, 16872, 4, 456, 4]],
 [[3, 35, 99, 2115, 4096, 16, 16, 8195, 16, 65539, 16, 524288, 16, 16], [1055, 3103, 7199, 33561631, 2037035976334486086268445688409378161051468393665936250636140449354381299763336706183397376, 4294974495, 2037035976334486086268445688409378161051468393665936250636140449354381299763336706183397376, 549755821087, 7199, 7199, 31775, 72057594037959711, 15391, 15391, 31775, 37778931862957161724959, 1208925819614629174721567, 158456325028528675187087916063, 35869, 3103, 200735, 71711, 858143, 1902623, 42535295865117307932921825928972929055, 68639, 68637, 3103, 68639, 68635, 3103], [1, 4, 4], [2, 4], [28, 16], [3, 387, 899, 419, 65955, 16, 387, 16], [3, 16], [2, 4], [24579, 57347, 24587, 2199023280131, 24579, 985162418487299, 2111062325329923, 985162418487347, 985162418487539, 985162418487795, 4722367468032063701491, 985162418487747, 309485009822330231143268355, 985162418487299], [28, 64], [3, 67, 3, 16], [13, 525, 13, 13], [6, 4], [6, 4], [789, 797, 924, 28, 12, 4], [12, 44, 8236, 16, 4194348, 16, 224, 16]],
 [[6, 4], [1, 9, 14345, 30729, 14393, 14457, 276601, 67123305, 14441, 274877921289, 8, 14345, 4], [2, 4], [12, 44, 16, 512, 16, 16], [15, 64], [15, 1036, 3080, 8391688, 7168, 536878080, 1610619904, 536886272, 536878080, 536878080, 49152, 281474976727040, 768, 768], [4, 4], [11, 8], [19, 51, 24627, 57395, 24691, 417907, 942195, 418035, 33972467, 3221643379, 7516610675, 3221644147, 3221643379, 3221643379, 417907, 24627, 16], [7, 32], [2037035976334486086268445688409378161051468393665936250636140449354381299763336706183397376, 16], [11, 8], [11, 8], [3, 33, 3145761, 7340065, 3145825, 808452193, 1882194017, 808452321, 550564266209, 808452193, 808452193, 3145761, 16], [2, 4], [2, 4]],
 [[14, 64], [2, 10, 4, 262146, 4, 274877906944, 4, 4], [28, 120, 240, 16], [3, 2051, 16, 16387, 16, 35, 262179, 35, 281474976710691, 16, 16], [3, 33, 97, 32865, 97, 481, 68719477217, 97, 16], [3, 35, 99, 2147, 99, 99, 16], [3, 35, 547, 35, 99, 65635, 99, 134217827, 16, 16], [1, 9, 137, 9, 524297, 4, 4], [6, 38, 131110, 16, 16777222, 16, 70, 939524166, 2013265990, 939524550, 939524934, 562950892945478, 16, 939524166, 31525197391593538, 67553994410557506, 31525197391596610, 31525197391599682, 31525197391607874, 151115758977026038446146, 31525197391607874, 324518553658426758308353412184130, 16, 31525197391593538, 16], [3, 35, 1826, 3874, 2018, 1826, 1826, 16], [3, 8], [5, 4], [28, 32], [7, 16], [3, 16], [3, 16]],
 [[35, 289, 1825, 3873, 274877909793, 2593, 2592, 2560, 9903520314283042199192995840, 192, 2593, 2561, 2048, 46768052394588893382517914646921056628989841377280, 192, 4096, 192], [3, 35, 1827, 3875, 2019, 2099043, 1827, 1827, 16], [3, 16], [3, 16], [3, 8], [1, 4], [3, 16], [3, 8], [1, 4], [1, 129, 1, 9, 25, 32793, 25, 25, 4], [1, 4], [1, 9, 456, 968, 488, 456, 456, 4], [3, 387, 899, 419, 65955, 16, 387, 16], [1, 4], [271, 16655, 271, 783, 17179869967, 783, 783], [271, 783, 1801, 3849, 2101001, 3849, 3849, 4873, 8589939465, 4873, 4873, 4873]],
 [[259, 131331, 771, 1795, 3843, 34359742211, 3843, 7939, 35184372096771, 7939, 3843], [15, 1035, 3083, 7179, 15371, 31753, 17179900937, 68719507465, 30729, 30729, 30729, 10240, 36028797018972160, 768, 180143985094828032, 768, 1152921504606855168, 768], [261, 769, 33537, 769, 769, 769], [15, 527, 1551, 67087, 1551, 68719478287, 1551, 2199023257103, 256, 35184372090383, 256, 1551, 36893488147419104783, 3599, 590295810358705655311, 3599, 19342813113834066795302415, 3599, 20282409603651670423947251287567, 5647, 649037107316853453566312041158159, 5647, 21267647932558653966460912964485518863, 5647, 256], [31, 23, 6163, 140737488361491, 6163, 36893488147419109395, 6163, 1180591620717411309587, 6163, 6163, 6163, 1024], [31, 23, 12307, 140737488367635, 12307, 73786976294838218771, 12307, 2361183241434822619155, 8192, 3072, 12307, 12307, 12307, 1329227995784915872903807060280356883, 12307, 696898287454081973172991196020261297074195, 12307, 22300745198530623141535718272648361505992723, 12307, 12307, 12307, 8192, 3072], [5, 21, 1, 5, 261, 5, 5, 4], [5, 21, 1, 5, 261, 5, 5, 16389, 5, 5, 4], [3, 387, 899, 419, 65955, 16, 387, 16], [7171, 15363, 7195, 7227, 2104363, 7211, 9223372036854782979, 7171], [7, 16], [11, 905, 1929, 937, 17321, 905, 1073742729, 905], [22, 16], [9, 73, 6209, 14401, 6593, 137665, 65, 6209, 33554497, 48, 577, 12884902465, 30064771649, 12884903489, 12884902465, 12884902465, 48], [25, 57, 185, 441, 249, 185, 185, 16], [3587, 7683, 3611, 3643, 3627, 536874499, 3587]],
 [[49, 785, 1809, 977, 977, 785, 785], [19, 51, 16], [3, 8], [3, 67, 451, 33219, 963, 134218691, 451, 451, 48], [1, 17, 4, 4], [3, 387, 899, 419, 65955, 16, 387, 16], [1053, 3101, 265245, 1099511630877, 3101, 288230376151714845, 2077, 1053], [1, 4], [1, 1, 1, 1, 4], [15, 256], [63, 63, 55, 4, 4096], [1, 17, 4, 4], [3, 67, 3, 16], [3, 16], [1, 4], [31, 4194318, 6, 3072, 3072]],
 [[], [], [], [], [], [], [], [], [], [], [], [], [], [], [], []],
 [[], [], [], [], [], []]]
end Go.Proofs.YtfgdbeijjbijnaaGreatDoor
set_option maxRecDepth 100000
namespace Go.Proofs.YtfgdbeijjbijnaaGreatDoor
open Go Go.Abs Go.Proofs
def Bl : AB := .gl 1 [.int .i64 1, .int .i64 0, .int .i64 0, .int .i64 1]
def B6 : AB := .gl 2 [.int .u8 0, .int .u8 1, .int .u8 56, .int .u8 2, .int .u8 57, .int .u8 49, .int .u8 28, .int .u8 3, .int .u8 61, .int .u8 58, .int .u8 42, .int .u8 50, .int .u8 38, .int .u8 29, .int .u8 17, .int .u8 4, .int .u8 62, .int .u8 47, .int .u8 59, .int .u8 36, .int .u8 45, .int .u8 43, .int .u8 51, .int .u8 22, .int .u8 53, .int .u8 39, .int .u8 33, .int .u8 30, .int .u8 24, .int .u8 18, .int .u8 12, .int .u8 5, .int .u8 63, .int .u8 55, .int .u8 48, .int .u8 27, .int .u8 60, .int .u8 41, .int .u8 37, .int .u8 16, .int .u8 46, .int .u8 35, .int .u8 44, .int .u8 21, .int .u8 52, .int .u8 32, .int .u8 23, .int .u8 11, .int .u8 54, .int .u8 26, .int .u8 40, .int .u8 15, .int .u8 34, .int .u8 20, .int .u8 31, .int .u8 10, .int .u8 25, .int .u8 14, .int .u8 19, .int .u8 9, .int .u8 13, .int .u8 8, .int .u8 7, .int .u8 6]
def BM : AB := .gl 0 [.int .i64 0, .int .i64 0, .int .i64 0, .int .i64 (-2)]
def GH0 : List AB := []
def GH1 : List AB := [BM]
def GH2 : List AB := [BM, Bl]
def GH3 : List AB := [BM, Bl, B6]
def g3M : Nat := 80700233940990442736717360590256108147168360698061164213149050676950335544500537807996979655299079083026309825670677112
def g2M : Nat := 1231312693637327484461664905793355781618341377126303809844264443764007216172496210452526579467647369146297311297536
def g1M : Nat := 151152620940011499421696
def gkF (f : Nat) : Nat := match Nat.testBit g3M f with
 | true => 3
 | false => match Nat.testBit g2M f with
  | true => 2
  | false => match Nat.testBit g1M f with
   | true => 1
   | false => 0
def aC7 : Nat := 1217994777365037915838536735004242808535162183309532372345969827494321718172931862156962941525111594545814447949229326208
def ktF (f : Nat) : List Nat := match look16 ktA f with
 | some l => l
 | none => []
def vmM : Nat := 630432099142313907141206819406539461025832008436913899616513406795343032176775982974518800231106966293416211594346496
def ndM : Nat := 630432099142311684894470439866424298563569256933552991527620655030510714095600422635456920461990579232351257343557632
def kbM : Nat := 9850501549098620349882441220788884544395491597021703005279431074364539549316954255341816363565209716079951253340160
def fzF (f : Nat) : Nat := 0
def fbF (f : Nat) : Nat := match Nat.beq f 286 with
 | true => 1073741840
 | false => match Nat.beq f 29 with
 | true => 256
 | false => match Nat.beq f 352 with
 | true => 134217728
 | false => 0
noncomputable def exW (l : List (Nat × List V × List AB × V)) : Xe := { fn := look16 fnA, kt := ktF, nd := ndM, lm := aC7, fs := fun _ _ _ => none, fp := lookP l, gk := gkF, vm := vmM, fz := fzF, fb := fbF, kb := kbM }
end Go.Proofs.YtfgdbeijjbijnaaGreatDoor
set_option linter.unusedSimpArgs false
set_option linter.unusedVariables false
set_option maxRecDepth 100000
namespace Go.Proofs.YtfgdbeijjbijnaaGreatDoor
open Go Go.Abs Go.Proofs
theorem aFt {T : List AB} : List.take GH.length (BM :: Bl :: B6 :: T) = GH := rfl
theorem atGH {f : Nat} {args : List V} {y : V} (h : Ae Tryz.prog f args GH (one y GH)) (ha : args.all (V.low 0) = true) (hy : y.low 0 = true) (T : List AB) : Ae Tryz.prog f args (BM :: Bl :: B6 :: T) (one y (BM :: Bl :: B6 :: T)) :=
 Ae.glAt (gh := GH) rfl (h.mono fun a b hab => hab.1) ha hy aFt
theorem aPT {f : Nat} {args : List V} {y : V} (h : PureG Tryz.prog GH3 f args y) (T : List AB) : Ae Tryz.prog f args (BM :: Bl :: B6 :: T) (one y (BM :: Bl :: B6 :: T)) :=
 h.at rfl rfl
theorem Qe (n : Nat) : BM.low n = true := rfl
theorem MW (n : Nat) : Bl.low n = true := rfl
theorem Qf (n : Nat) : B6.low n = true := rfl
end Go.Proofs.YtfgdbeijjbijnaaGreatDoor
set_option linter.unusedSimpArgs false
set_option linter.unusedVariables false
set_option maxRecDepth 100000
namespace Go.Proofs.YtfgdbeijjbijnaaGreatDoor
open Go Go.Abs Go.Proofs
theorem Tryz.own : ownKnob Tryz.prog.godebug = none := by kernel_rfl
theorem Tryz.laidOut : laidOutB Tryz.prog = true := by kernel_rfl
theorem Tryz.rowed : mapsRowed Tryz.prog = true := by kernel_rfl
theorem Tryz.full : ∀ t e, t < Tryz.prog.types.size → Tryz.prog.underlying t = some (.slice e) → 0 < Tryz.prog.cellsOf e := slices_full_of _ (by kernel_rfl)
theorem KW {n : Nat} {ds : List D} (h : BE Tryz.prog n 2 ds) : ∃ m, ds = [.int .i64 m] := by
 cases n with
 | zero => exact h.elim
 | succ n => simp only [BE, Tryz.underlying2] at h; obtain ⟨m, h, _⟩ := h; exact ⟨m, h⟩
theorem Oy {n : Nat} {ds : List D} (h : BE Tryz.prog n 5 ds) : ∃ m : Int, ds = [.int .u8 m] ∧ 0 ≤ m ∧ m ≤ 255 := by
 cases n with
 | zero => exact h.elim
 | succ n =>
  simp only [BE, Tryz.underlying5] at h
  obtain ⟨m, h, hw⟩ := h
  refine ⟨m, h, ?_⟩
  simp [Lit.wf, IntKind.min, IntKind.max, IntKind.signed, IntKind.bits] at hw
  omega
theorem Se {n : Nat} {ds : List D} (h : BE Tryz.prog n 5 ds) : ∃ m : Int, Dz Tryz.prog 5 ds = .c (.d (.int .u8 m)) ∧ 0 ≤ m ∧ m ≤ 255 := by
 obtain ⟨m, rfl, hb⟩ := Oy h; exact ⟨m, by simp [Dz, Tryz.underlying5], hb⟩
theorem Qg {P : Program} {w : World} {base : Nat} {spare : Nat → Bool} {held : Bool} {fuel : Nat} {t e n : Nat} {k : IntKind} {cs : List Value} {ns : List Int} {p : List MemPlace} (ht : P.underlying t = some (.array n e)) (he : P.underlying e = some (.int k)) (h1 : P.cellsOf e = 1) (hl : P.cellsOf t = n)
  (h : DataW.trod (fun _ : TypeId × Value => ()) P w base spare held fuel t cs = some (.agg (ns.map fun m => .lit (.int k m)), p)) : cs = ns.map (Value.int k) := by
 obtain ⟨xs, m, rfl, hx, hlen, hn, hf⟩ := DataW.trod_array ht h
 have hx1 : xs.map (·.1) = ns.map fun m => .lit (.int k m) := by
  have := congrArg Prod.fst hx
  simp only [DataW.agg.injEq] at this
  exact this.symm
 have hnl : ns.length = n := by have := congrArg List.length hx1; simp at this; omega
 refine List.ext_getElem? fun i => ?_
 by_cases hi : i < n
 ·have f0 := hf i hi
  rw [h1, Nat.mul_one] at f0
  have hi1 : i < xs.length := by omega
  rw [List.getElem?_eq_getElem hi1] at f0
  obtain ⟨z, ez, rz, _⟩ := DataW.trod_int he f0
  have hi2 : i < cs.length := by omega
  have hi3 : i < ns.length := by omega
  have hc : (cs.drop i).take 1 = [cs[i]] := by rw [List.drop_eq_getElem_cons hi2]; rfl
  rw [hc] at ez
  have hg : (xs.map (·.1))[i]? = (ns.map fun m => DataW.lit (.int k m))[i]? := by rw [hx1]
  rw [List.getElem?_map, List.getElem?_map, List.getElem?_eq_getElem hi1, List.getElem?_eq_getElem hi3] at hg
  simp only [Option.map_some, Option.some.injEq] at hg
  rw [rz] at hg
  cases hg
  rw [List.getElem?_map, List.getElem?_eq_getElem hi2, List.getElem?_eq_getElem hi3]
  simp only [Option.map_some, Option.some.injEq]
  simpa using ez
 ·rw [List.getElem?_eq_none (by omega), List.getElem?_eq_none (by simp; omega)]
theorem Oz {W : World} {g : Nat} {k : IntKind} {ns : List Int} {nm : String} {cs : Array Value} (hg : Tryz.prog.globalNamed nm = some g) (hvar : W.var? Tryz.prog nm = some cs) (hc : cs.toList = ns.map (Value.int k)) {H : List AB} {id : Nat} : AO W (G0 W) H id (.gl g (ns.map fun n => .int k n)) := by
 have cell : ∀ j, W.cell? ⟨g, j, none⟩ = (ns.map (Value.int k))[j]? := fun j => by rw [World.var?_cell hg hvar j, ← hc]; simp
 refine .gl g _ (fun j => ((ns.map (Value.int k))[j]?).getD undef) (fun j hj => ?_) (fun j x hx => ?_)
 ·have hj : j < (ns.map (Value.int k)).length := by simpa using hj
  exact ⟨⟨_, by rw [cell, List.getElem?_eq_getElem hj]⟩, by rw [cell, List.getElem?_eq_getElem hj]; rfl⟩
 ·rw [List.getElem?_map] at hx ⊢
  cases hn : ns[j]? with
  | none => rw [hn] at hx; cases hx
  | some n => rw [hn] at hx; cases hx; exact .int _ _
end Go.Proofs.YtfgdbeijjbijnaaGreatDoor
set_option linter.unusedSimpArgs false
set_option linter.unusedVariables false
set_option maxRecDepth 100000
namespace Go.Proofs.YtfgdbeijjbijnaaGreatDoor
open Go Go.Abs Go.Proofs
def aC8 : List Int := [0, 1, 56, 2, 57, 49, 28, 3, 61, 58, 42, 50, 38, 29, 17, 4, 62, 47, 59, 36, 45, 43, 51, 22, 53, 39, 33, 30, 24, 18, 12, 5, 63, 55, 48, 27, 60, 41, 37, 16, 46, 35, 44, 21, 52, 32, 23, 11, 54, 26, 40, 15, 34, 20, 31, 10, 25, 14, 19, 9, 13, 8, 7, 6]
theorem aFu : B6 = .gl 2 (aC8.map fun n => .int .u8 n) := rfl
theorem aC9 : Bl = .gl 1 (([1, 0, 0, 1] : List Int).map fun n => .int .i64 n) := rfl
theorem aFv : BM = .gl 0 (([0, 0, 0, -2] : List Int).map fun n => .int .i64 n) := rfl
theorem aHV {W : World} (h : laidMetH Tryz.prog [("math/bits.deBruijn64tab", Rows.laid_math_bits_deBruijn64tab), ("lampblack/street.none", Rows.laid_lampblack_street_none), ("lampblack/unit.first", Rows.laid_lampblack_unit_first)] W) : Rel W (G0 W) GH3 := by
 have h : laidMet Tryz.prog [("math/bits.deBruijn64tab", Rows.laid_math_bits_deBruijn64tab), ("lampblack/street.none", Rows.laid_lampblack_street_none), ("lampblack/unit.first", Rows.laid_lampblack_unit_first)] W := h
 obtain ⟨ps, ⟨g1, t1, cs1, fu1, p1, q1, hg1, ht1, hv1, hd1, ⟨g2, t2, cs2, fu2, p2, q2, hg2, ht2, hv2, hd2, ⟨g3, t3, cs3, fu3, p3, q3, hg3, ht3, hv3, hd3, _, _⟩, _⟩, _⟩, _⟩ := h
 have eg1 : Tryz.prog.globalNamed "math/bits.deBruijn64tab" = some 2 := by kernel_rfl
 have eg2 : Tryz.prog.globalNamed "lampblack/street.none" = some 0 := by kernel_rfl
 have eg3 : Tryz.prog.globalNamed "lampblack/unit.first" = some 1 := by kernel_rfl
 have et1 : (Tryz.prog.globals[2]?).map (·.type) = some 507 := by kernel_rfl
 have et2 : (Tryz.prog.globals[0]?).map (·.type) = some 270 := by kernel_rfl
 have et3 : (Tryz.prog.globals[1]?).map (·.type) = some 435 := by kernel_rfl
 obtain rfl := Option.some.inj (eg1.symm.trans hg1)
 obtain rfl := Option.some.inj (eg2.symm.trans hg2)
 obtain rfl := Option.some.inj (eg3.symm.trans hg3)
 obtain rfl := Option.some.inj (et1.symm.trans ht1)
 obtain rfl := Option.some.inj (et2.symm.trans ht2)
 obtain rfl := Option.some.inj (et3.symm.trans ht3)
 have c1 : cs1.toList = aC8.map (Value.int .u8) := Qg (n := 64) (e := 5) (by kernel_rfl) (by kernel_rfl) (by kernel_rfl) (by kernel_rfl) hd1
 have c3 : cs3.toList = ([1, 0, 0, 1] : List Int).map (Value.int .i64) := Qg (n := 4) (e := 2) (by kernel_rfl) (by kernel_rfl) (by kernel_rfl) (by kernel_rfl) hd3
 have c2 : cs2.toList = ([0, 0, 0, -2] : List Int).map (Value.int .i64) := by
  obtain ⟨xs, n, hn, hx, hl, hlen, hf⟩ := DataW.trod_struct Tryz.underlying270 hd2
  have hcells : cs2.toList.length = 4 := by rw [hl]; kernel_rfl
  have hc3 : Tryz.prog.cellsOf 3 = 1 := by kernel_rfl
  have hc2 : Tryz.prog.cellsOf 2 = 1 := by kernel_rfl
  obtain ⟨c0, c1, c2, c3, hcs⟩ : ∃ a b c d, cs2.toList = [a, b, c, d] := by
   match h : cs2.toList, hcells with
   | [a, b, c, d], _ => exact ⟨a, b, c, d, rfl⟩
  obtain ⟨x0, x1, x2, x3, hxs⟩ : ∃ a b c d, xs = [a, b, c, d] := by
   match xs, hlen with
   | [a, b, c, d], _ => exact ⟨a, b, c, d, rfl⟩
  subst hxs
  have hx1 : ([x0, x1, x2, x3].map (·.1)) = [.lit (.int .i64 0), .lit (.int .i64 0), .lit (.int .i64 0), .lit (.int .i64 (-2))] := by
   have := congrArg Prod.fst hx
   simp only [Rows.laid_lampblack_street_none, DataW.agg.injEq] at this
   exact this.symm
  simp only [List.map_cons, List.map_nil, List.cons.injEq, and_true] at hx1
  obtain ⟨y0, y1, y2, y3⟩ := hx1
  have f0 := hf 0 _ rfl
  have f1 := hf 1 _ rfl
  have f2 := hf 2 _ rfl
  have f3 := hf 3 _ rfl
  simp only [hcs, hc3, hc2, List.getElem?_cons_zero, List.getElem?_cons_succ, List.drop_zero, List.drop_succ_cons, List.take_succ_cons, List.take_zero] at f0 f1 f2 f3
  obtain ⟨z0, e0, r0, _⟩ := DataW.trod_int Tryz.underlying3 f0
  obtain ⟨z1, e1, r1, _⟩ := DataW.trod_int Tryz.underlying3 f1
  obtain ⟨z2, e2, r2, _⟩ := DataW.trod_int Tryz.underlying2 f2
  obtain ⟨z3, e3, r3, _⟩ := DataW.trod_int Tryz.underlying3 f3
  rw [r0] at y0; rw [r1] at y1; rw [r2] at y2; rw [r3] at y3
  cases y0; cases y1; cases y2; cases y3
  cases e0; cases e1; cases e2; cases e3
  rw [hcs]; rfl
 refine ⟨fun _ _ h => h, fun b id h => (by cases h), fun id x hx => ?_⟩
 match id, hx with
 | 0, hx => cases hx; rw [aFv]; exact Oz eg2 hv2 c2
 | 1, hx => cases hx; rw [aC9]; exact Oz eg3 hv3 c3
 | 2, hx => cases hx; rw [aFu]; exact Oz eg1 hv1 c1
 | n + 3, hx => simp [GH3] at hx
noncomputable def aDa (os : Os) : Array Obj := (((World.holding Tryz.prog os ⟨#[], #[], []⟩).heap.modify 0 (fun
      | .cells _ t frozen => .cells #[.int .i64 0, .int .i64 0, .int .i64 0, .int .i64 (-2)] t frozen
      | o => o)).modify 1 (fun
      | .cells _ t frozen => .cells #[.int .i64 1, .int .i64 0, .int .i64 0, .int .i64 1] t frozen
      | o => o)).modify 2 (fun
      | .cells _ t frozen => .cells (aC8.map (Value.int .u8)).toArray t frozen
      | o => o)
noncomputable def Io (os : Os) : World := { World.holding Tryz.prog os ⟨#[], #[], []⟩ with heap := aDa os }
end Go.Proofs.YtfgdbeijjbijnaaGreatDoor
