/- Two streets joined: the plain law of StreetJoined. -/
import Derived.Test.YteamgbndnfjoaaaDoorS20
import Derived.Test.YteamgbndnfjoaaaDoorS22
set_option linter.unusedSimpArgs false
set_option linter.unusedVariables false
set_option maxRecDepth 100000
namespace Go.Proofs.YteamgbndnfjoaaaDoor
open Go Go.Abs Go.Proofs

def HoldS (r : Rd) (st : Nat → Int) : Prop := ∀ p : Nat, p < r.pl.toNat → r.de < litP r st r.ps.length p
theorem litP_congr {r : Rd} {f g : Nat → Int} (k : Int) : ∀ {m : Nat}, (∀ i, i < m → f i = g i) → litP r f m k = litP r g m k
  | 0, _ => rfl
  | m + 1, h => by rw [litP, litP, litP_congr k (fun i hi => h i (by omega)), h m (by omega)]
theorem costP_congr {r : Rd} {f g : Nat → Int} : ∀ {m : Nat}, (∀ i, i < m → f i = g i) → costP r f m = costP r g m
  | 0, _ => rfl
  | m + 1, h => by rw [costP, costP, costP_congr (fun i hi => h i (by omega)), h m (by omega)]
/-- A choice that holds, given by numbers 0 and 1, is a choice that holds. -/
theorem hold_list {r : Rd} {st : Nat → Int} (h01 : ∀ i, st i = 0 ∨ st i = 1) (h : HoldS r st) : holdsB r (choP st r.ps.length) = true := by
  rw [holdsB_iff]
  intro p hp
  rw [litP_congr (g := st) (p : Int) (fun i hi => ind_choP h01 _ hi)]
  exact h p hp
theorem ind01 (l : List Int) (i : Nat) : ind l i = 0 ∨ ind l i = 1 := by unfold ind; split <;> simp
theorem weak_st {r : Rd} {l : List Int} {st : Nat → Int} (hl : (l.length : Int) = r.pl) (hx : OkX l) (h01 : ∀ i, st i = 0 ∨ st i = 1) (h : HoldS r st) : bndP r l r.ps.length ≤ costP r st r.ps.length :=
  weak_dual hl (fun x h => (hx x h).1) h01 (fun p hp => by have := h p (by omega); omega)
/-- What a street's best is: the least cost of all choices that hold, told by numbers. -/
structure Least (r : Rd) (n : Int) : Prop where
  some : ∃ st : Nat → Int, (∀ i, st i = 0 ∨ st i = 1) ∧ HoldS r st ∧ costP r st r.ps.length = n
  all : ∀ st : Nat → Int, (∀ i, st i = 0 ∨ st i = 1) → HoldS r st → n ≤ costP r st r.ps.length
theorem Best.least {r : Rd} {c : List Int} {n : Int} {pr : List Int} (b : Best r c n pr) : Least r n where
  some := ⟨ind c, ind01 c, holdsB_iff.1 b.hold, b.cost⟩
  all := fun st h01 h => by have := weak_st b.prL b.prX h01 h; rw [b.bound] at this; exact this
theorem Least.uniq {r : Rd} {n m : Int} (a : Least r n) (b : Least r m) : n = m := by
  obtain ⟨s, s1, s2, s3⟩ := a.some
  obtain ⟨t, t1, t2, t3⟩ := b.some
  have := a.all t t1 t2
  have := b.all s s1 s2
  omega
/-- What Cheapest tells: the least cost, or that no choice holds. -/
theorem told_least {r : Rd} (hr : OkR r) : (∃ c n pr, Told r c n pr 0 ∧ Best r c n pr ∧ Least r n) ∨ (Told r [] 0 [] 18 ∧ ∀ st : Nat → Int, (∀ i, st i = 0 ∨ st i = 1) → ¬ HoldS r st) := by
  rcases told_of hr with ⟨c, n, pr, t, b⟩ | ⟨t, b⟩
  · exact .inl ⟨c, n, pr, t, b, b.least⟩
  · refine .inr ⟨t, fun st h01 h => ?_⟩
    have := hold_list h01 h
    rw [b] at this; cases this

def shiftP (L : Int) (p : Po) : Po := ⟨p.fr + L, p.to + L, p.co⟩
/-- The second street with the Dead and Dirt of the first. -/
def likeR (r s : Rd) : Rd := { s with de := r.de, di := r.di }
def joinR (r s : Rd) : Rd := { r with pl := r.pl + s.pl, ps := r.ps ++ s.ps.map (shiftP r.pl) }
theorem like_ok {r s : Rd} (hr : OkR r) (hs : OkR s) : OkR (likeR r s) := ⟨hs.len, hs.p1, hs.p40, hr.d0, hr.d2, hr.i0, hr.i5, hs.ok⟩
theorem po_ok {r : Rd} (hr : OkR r) {m : Nat} (h : m < r.ps.length) : 0 ≤ (po r m).fr ∧ (po r m).fr ≤ (po r m).to ∧ (po r m).to < r.pl := by
  obtain ⟨p, hp⟩ := get_of_lt h
  obtain ⟨a, b, c, _⟩ := hr.ok p (List.mem_of_getElem? hp)
  have : po r m = p := by simp [po, hp]
  rw [this]; exact ⟨a, b, c⟩
theorem po_join1 {r s : Rd} {m : Nat} (h : m < r.ps.length) : po (joinR r s) m = po r m := by
  simp [po, joinR, List.getElem?_append_left h]
theorem po_join2 {r s : Rd} {m : Nat} (h : m < s.ps.length) : po (joinR r s) ((r.ps.length + m : Nat) : Int) = shiftP r.pl (po (likeR r s) m) := by
  obtain ⟨p, hp⟩ := get_of_lt h
  have e1 : po (likeR r s) m = p := by simp [po, likeR, hp]
  rw [e1]
  simp only [po, joinR, Int.toNat_natCast]
  rw [List.getElem?_append_right (by omega), Nat.add_sub_cancel_left, List.getElem?_map, hp]
  rfl
theorem litB_join1 (r s : Rd) (p : Po) (k : Int) : litB (joinR r s) p k = litB r p k := rfl
theorem litB_join2 (r s : Rd) (p : Po) (k : Int) : litB (joinR r s) (shiftP r.pl p) k = litB (likeR r s) p (k - r.pl) := by
  unfold litB
  rw [decide_eq_decide]
  show (p.fr + r.pl + r.di ≤ k ∧ k ≤ p.to + r.pl - r.di) ↔ (p.fr + r.di ≤ k - r.pl ∧ k - r.pl ≤ p.to - r.di)
  omega
theorem litP_join1 (r s : Rd) (st : Nat → Int) (k : Int) : ∀ {m : Nat}, m ≤ r.ps.length → litP (joinR r s) st m k = litP r st m k
  | 0, _ => rfl
  | m + 1, h => by rw [litP, litP, litP_join1 r s st k (by omega), po_join1 (by omega), litB_join1]
theorem litP_join2 (r s : Rd) (st : Nat → Int) (k : Int) : ∀ {m : Nat}, m ≤ s.ps.length → litP (joinR r s) st (r.ps.length + m) k = litP r st r.ps.length k + litP (likeR r s) (fun i => st (r.ps.length + i)) m (k - r.pl)
  | 0, _ => by simp only [Nat.add_zero, litP, Int.add_zero]; exact litP_join1 r s st k (Nat.le_refl _)
  | m + 1, h => by
    rw [← Nat.add_assoc, litP, litP, litP_join2 r s st k (by omega), po_join2 (by omega), litB_join2]
    omega
theorem litP_none {r : Rd} {st : Nat → Int} {k : Int} : ∀ {m : Nat}, (∀ i, i < m → litB r (po r i) k = false) → litP r st m k = 0
  | 0, _ => rfl
  | m + 1, h => by rw [litP, litP_none (fun i hi => h i (by omega)), h m (by omega)]; rfl
theorem costP_join1 (r s : Rd) (st : Nat → Int) : ∀ {m : Nat}, m ≤ r.ps.length → costP (joinR r s) st m = costP r st m
  | 0, _ => rfl
  | m + 1, h => by rw [costP, costP, costP_join1 r s st (by omega), po_join1 (by omega)]
theorem costP_join2 (r s : Rd) (st : Nat → Int) : ∀ {m : Nat}, m ≤ s.ps.length → costP (joinR r s) st (r.ps.length + m) = costP r st r.ps.length + costP (likeR r s) (fun i => st (r.ps.length + i)) m
  | 0, _ => by simp only [Nat.add_zero, costP, Int.add_zero]; exact costP_join1 r s st (Nat.le_refl _)
  | m + 1, h => by
    rw [← Nat.add_assoc, costP, costP, costP_join2 r s st (by omega), po_join2 (by omega)]
    simp only [shiftP]
    omega
theorem join_len (r s : Rd) : (joinR r s).ps.length = r.ps.length + s.ps.length := by simp [joinR]
theorem hold_join {r s : Rd} (hr : OkR r) (hs : OkR s) (st : Nat → Int) : HoldS (joinR r s) st ↔ HoldS r st ∧ HoldS (likeR r s) (fun i => st (r.ps.length + i)) := by
  have p1 := hr.p1
  have q1 := hs.p1
  have i0 := hr.i0
  have hl : OkR (likeR r s) := like_ok hr hs
  have e1 : (joinR r s).pl = r.pl + s.pl := rfl
  have e2 : (joinR r s).de = r.de := rfl
  have e3 : (likeR r s).pl = s.pl := rfl
  have e4 : (likeR r s).de = r.de := rfl
  have e5 : (likeR r s).ps.length = s.ps.length := rfl
  have e6 : (likeR r s).di = r.di := rfl
  have low : ∀ p : Nat, (p : Int) < r.pl → litP (likeR r s) (fun i => st (r.ps.length + i)) s.ps.length ((p : Int) - r.pl) = 0 := fun p hp => litP_none fun i hi => by
    obtain ⟨a, _, _⟩ := po_ok hl (m := i) hi
    unfold litB
    rw [decide_eq_false_iff_not, e6]
    omega
  have high : ∀ p : Nat, litP r st r.ps.length ((p : Int) + r.pl) = 0 := fun p => litP_none fun i hi => by
    obtain ⟨_, _, a⟩ := po_ok hr (m := i) hi
    unfold litB
    rw [decide_eq_false_iff_not]
    omega
  unfold HoldS
  rw [e1, e2, e3, e4, e5, join_len]
  constructor
  · intro h
    refine ⟨fun p hp => ?_, fun p hp => ?_⟩
    · have := h p (by omega)
      rw [litP_join2 r s st _ (Nat.le_refl _), low p (by omega)] at this
      omega
    · have := h (p + r.pl.toNat) (by omega)
      have ec : ((p + r.pl.toNat : Nat) : Int) = (p : Int) + r.pl := by omega
      rw [ec, litP_join2 r s st _ (Nat.le_refl _), high p] at this
      have ed : (p : Int) + r.pl - r.pl = p := by omega
      rw [ed] at this
      omega
  · rintro ⟨h1, h2⟩ p hp
    rw [litP_join2 r s st _ (Nat.le_refl _)]
    by_cases hc : (p : Int) < r.pl
    · rw [low p hc]
      have := h1 p (by omega)
      omega
    · have := h2 (p - r.pl.toNat) (by omega)
      have h3 := high (p - r.pl.toNat)
      have ec : ((p - r.pl.toNat : Nat) : Int) = (p : Int) - r.pl := by omega
      rw [ec] at this h3
      have ed : (p : Int) - r.pl + r.pl = p := by omega
      rw [ed] at h3
      rw [h3]
      omega
theorem least_join {r s : Rd} (hr : OkR r) (hs : OkR s) {n m : Int} (a : Least r n) (b : Least (likeR r s) m) : Least (joinR r s) (n + m) := by
  obtain ⟨f, f1, f2, f3⟩ := a.some
  obtain ⟨g, g1, g2, g3⟩ := b.some
  have e5 : (likeR r s).ps.length = s.ps.length := rfl
  constructor
  · refine ⟨fun i => if i < r.ps.length then f i else g (i - r.ps.length), fun i => ?_, ?_, ?_⟩
    · dsimp only; split
      · exact f1 i
      · exact g1 _
    · rw [hold_join hr hs]
      refine ⟨fun p hp => ?_, fun p hp => ?_⟩
      · rw [litP_congr (g := f) (p : Int) (fun i hi => by simp only [hi, if_true])]; exact f2 p hp
      · rw [litP_congr (g := g) (p : Int) (fun i hi => by rw [if_neg (by omega), Nat.add_sub_cancel_left])]; exact g2 p hp
    · rw [join_len, costP_join2 r s _ (Nat.le_refl _), costP_congr (r := r) (g := f) (fun i hi => by simp only [hi, if_true]), costP_congr (r := likeR r s) (g := g) (fun i hi => by rw [if_neg (by omega), Nat.add_sub_cancel_left])]
      rw [e5] at g3
      omega
  · intro st h01 h
    obtain ⟨h1, h2⟩ := (hold_join hr hs st).1 h
    have := a.all st h01 h1
    have := b.all _ (fun i => h01 _) h2
    rw [join_len, costP_join2 r s st (Nat.le_refl _)]
    rw [e5] at this
    omega
end Go.Proofs.YteamgbndnfjoaaaDoor
