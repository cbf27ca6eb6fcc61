/- Streets whose posts reach further: the plain law; choices by bits. -/
import Derived.Test.YtfgdbeijjbijnaaGreatDoorHG20
import Derived.Test.YtfgdbeijjbijnaaGreatDoorHG12
set_option linter.unusedSimpArgs false
set_option linter.unusedVariables false
set_option linter.unusedSimpArgs false
set_option linter.unusedVariables false
set_option maxRecDepth 100000
namespace Go.Proofs.YtfgdbeijjbijnaaGreatDoor
open Go Go.Abs Go.Proofs
def Ce (f : Nat → Bool) : Nat → Nat
 | 0 => 0
 | i + 1 => if Ce f i = i ∧ f i = true then Ce f i + 1 else Ce f i
theorem HC (f : Nat → Bool) : ∀ i, Ce f i ≤ i
 | 0 => Nat.le_refl _
 | i + 1 => by
  have := HC f i
  simp only [Ce]; split <;> omega
theorem MX {f g : Nat → Bool} : ∀ i, (∀ k, k < i → f k = true → g k = true) → Ce f i ≤ Ce g i
 | 0, _ => Nat.le_refl _
 | i + 1, h => by
  have ih := MX i (fun k hk => h k (by omega))
  have h1 := HC g i
  simp only [Ce]
  by_cases hf : Ce f i = i ∧ f i = true
  ·rw [if_pos hf, if_pos ⟨by omega, h i (by omega) hf.2⟩]; omega
  ·rw [if_neg hf]; split <;> omega
structure HE (r x : Rd) : Prop where
 pl : x.pl = r.pl
 de : x.de = r.de
 di : x.di = r.di
 len : x.ps.length = r.ps.length
 co : ∀ i : Nat, i < r.ps.length → (po x i).co = (po r i).co
 fr : ∀ i : Nat, i < r.ps.length → (po x i).fr ≤ (po r i).fr
 to : ∀ i : Nat, i < r.ps.length → (po r i).to ≤ (po x i).to
theorem HE.litB {r x : Rd} (h : HE r x) {i : Nat} (hi : i < r.ps.length) {k : Int} (hl : litB r (po r i) k = true) : litB x (po x i) k = true := by
 unfold YtfgdbeijjbijnaaGreatDoor.litB at hl ⊢
 have := of_decide_eq_true hl
 have := h.fr i hi
 have := h.to i hi
 rw [h.di]
 exact decide_eq_true (by omega)
theorem HE.litP {r x : Rd} (h : HE r x) {st : Nat → Int} (h0 : ∀ i, 0 ≤ st i) (k : Int) : ∀ m : Nat, m ≤ r.ps.length → litP r st m k ≤ litP x st m k
 | 0, _ => Int.le_refl _
 | m + 1, hm => by
  have ih := h.litP h0 k m (by omega)
  have := h0 m
  simp only [YtfgdbeijjbijnaaGreatDoor.litP]
  by_cases hl : YtfgdbeijjbijnaaGreatDoor.litB r (po r m) k = true
  ·rw [if_pos hl, if_pos (h.litB (by omega) hl)]; omega
  ·rw [if_neg hl]; split <;> omega
theorem HE.holds {r x : Rd} (h : HE r x) {ch : List Int} (hh : CJ r ch = true) : CJ x ch = true := Ed.2 fun p hp => by
 rw [h.pl] at hp
 have := Ed.1 hh p hp
 have := h.litP (fun i => (F5 ch i).1) p r.ps.length (Nat.le_refl _)
 rw [h.de, h.len]; omega
theorem HE.costP {r x : Rd} (h : HE r x) {st : Nat → Int} : ∀ m : Nat, m ≤ r.ps.length → costP x st m = costP r st m
 | 0, _ => rfl
 | m + 1, hm => by simp only [YtfgdbeijjbijnaaGreatDoor.costP]; rw [h.costP m (by omega), h.co m (by omega)]
theorem HE.costL {r x : Rd} (h : HE r x) (ch : List Int) : costL x ch = costL r ch := by
 unfold YtfgdbeijjbijnaaGreatDoor.costL
 rw [h.len]; exact h.costP _ (Nat.le_refl _)
theorem HE.best {r x : Rd} (h : HE r x) (hx : OkR x) {c c' pr pr' : List Int} {n n' : Int} (b : aFs r c n pr) (b' : aFs x c' n' pr') : n' ≤ n := by
 have := aFr (r := x) (l := pr') (ch := c) hx b'.prL b'.prX (h.holds b.hold)
 rw [b'.bound, h.costL, b.cost] at this
 exact this
def rcP (n : Int) (s : Int) (p : Int × Int) : Po := ⟨max 0 (Int.tmod p.1 n - s + 1), min (n - 1) (Int.tmod p.1 n + s - 1), p.2⟩
def rcR (n de s : Int) (l : List (Int × Int)) : Rd := ⟨n, de, 0, l.map (rcP n s)⟩
theorem E0 (n de s : Int) (l : List (Int × Int)) : (rcR n de s l).ps.length = l.length := by simp [rcR]
theorem aDb {n de s : Int} {l : List (Int × Int)} (h1 : 1 ≤ n) (h40 : n ≤ 40) (d0 : 0 ≤ de) (d2 : de ≤ 2) (hs : 1 ≤ s) (hl : l.length ≤ 24) (hb : ∀ p ∈ l, 0 ≤ p.1 ∧ 0 ≤ p.2 ∧ p.2 ≤ 255) : OkR (rcR n de s l) :=
 ⟨by rw [E0]; exact hl, h1, h40, d0, d2, Int.le_refl _, show (0 : Int) ≤ 5 by decide, fun p hp => by
  obtain ⟨q, hq, rfl⟩ := List.mem_map.1 hp
  obtain ⟨a, b, c⟩ := hb q hq
  have t0 := Int.tmod_nonneg n a
  have t1 := Int.tmod_lt_of_pos q.1 (b := n) (by omega)
  have e : (rcR n de s l).pl = n := rfl
  rw [e]
  simp only [rcP]
  omega⟩
theorem MY {n de s : Int} {l : List (Int × Int)} {i : Nat} (h : i < l.length) : po (rcR n de s l) (i : Int) = rcP n s l[i] := by
 simp [po, rcR, List.getElem?_eq_getElem h]
theorem aFw {n de s t : Int} {l : List (Int × Int)} (h : s ≤ t) : HE (rcR n de s l) (rcR n de t l) where
 pl := rfl
 de := rfl
 di := rfl
 len := by rw [E0, E0]
 co := fun i hi => by rw [E0] at hi; rw [MY hi, MY hi]; rfl
 fr := fun i hi => by rw [E0] at hi; rw [MY hi, MY hi]; simp only [rcP]; omega
 to := fun i hi => by rw [E0] at hi; rw [MY hi, MY hi]; simp only [rcP]; omega
def aHW (b : Int) (i : Nat) : Bool := decide (bits .and .u32 (b.fdiv (2 ^ min i 32)) 1 = 1)
def chN (b : Int) : Nat → List Int
 | 0 => []
 | m + 1 => chN b m ++ (if aHW b m then [(m : Int)] else [])
theorem TY (b : Int) : ∀ m, (chN b m).length ≤ m
 | 0 => by simp [chN]
 | m + 1 => by have := TY b m; simp only [chN, List.length_append]; split <;> simp <;> omega
theorem IL : ∀ {l : List Int} {a n m : Int}, Bk l a n = true → a < m → n ≤ m → m < m + 1 → Bk (l ++ [m]) a (m + 1) = true
 | [], a, n, m, _, h1, _, _ => by simp [Bk]; omega
 | x :: l, a, n, m, h, h1, h2, h3 => by
  simp only [Bk, Bool.and_eq_true, decide_eq_true_eq, List.cons_append] at h ⊢
  exact ⟨by omega, IL h.2 (by omega) h2 h3⟩
theorem IM : ∀ {l : List Int} {a n m : Int}, Bk l a n = true → n ≤ m → Bk l a m = true
 | [], _, _, _, _, _ => rfl
 | x :: l, a, n, m, h, h2 => by
  simp only [Bk, Bool.and_eq_true, decide_eq_true_eq] at h ⊢
  exact ⟨by omega, IM h.2 h2⟩
theorem MZ (b : Int) : ∀ m : Nat, FA (chN b m) m = true
 | 0 => rfl
 | m + 1 => by
  have ih := MZ b m
  simp only [chN]
  split
  ·have := IL (m := (m : Int)) ih (by omega) (Int.le_refl _) (by omega)
   exact this
  ·rw [List.append_nil]; exact IM ih (by omega)
theorem Qh {r : Rd} (hr : OkR r) (b : Int) : DB r (chN b r.ps.length) = 0 := by simp [DB, hr.zero, MZ]
set_option maxHeartbeats 2000000 in
theorem aDc (r : Rd) (b : Int) (hl : r.ps.length ≤ 24) : BA Tryz.prog 27 [BF r, .c (.d (.int .u32 b))] (ints (chN b r.ps.length)) := by
 refine pure_wkE (bad := []) (kp := Mh) (X := tx) (nt := 24) (rs := [.tmp 4]) Tryz.func27 rfl rfl rfl rfl mo (by kernel_rfl) rfl rfl (fun hf => ?_)
 simp (maxSteps := 2000000) only [go_sem, reduceIte, Nat.reduceEqDiff, Nat.reduceAdd, Ox, BF, AM]
 refine goE_loop (bad := []) (kp := Mh) (fun i : Nat => { slots := [(1, .c (.d (.int .u32 b))), (2, .c (.ptr 0 0)), (5, .c (.own 1 ((chN b i).map iD))), (6, I i)], heap := [.cells (AM r), .grow (chN b i).length 1], marks := [] }) (fun i => i ≤ r.ps.length) (fun i => r.ps.length - i) 0 mo (by kernel_rfl) ?_ (Nat.zero_le _) ?_
 ·refine Ent.trans (ent_own 5 1 rfl) ?_
  refine ent_weaken [] rfl rfl (Nat.zero_le _) rfl rfl ?_
  simp (maxSteps := 2000000) only [go_sem, reduceIte, Nat.reduceEqDiff, Nat.reduceAdd, Nat.reduceLT, Ox, AM, chN, List.map_nil]
  all_goals first | exact .refl _ | exact ⟨.refl _, .refl _⟩ | exact ⟨.refl _, .refl _, .refl _⟩ | exact ⟨.refl _, _, rfl⟩ | exact ⟨_, rfl⟩ | exact ⟨.refl _, [], by simp⟩ | exact ⟨[], by simp⟩
 rintro i hi
 simp (maxSteps := 2000000) only [go_sem, reduceIte, Nat.reduceEqDiff, Nat.reduceAdd, Nat.reduceBEq, Ox, AM]
 refine goE_if (fun h => ?_) (fun h => ?_)
 ·have hlt : i < r.ps.length := by simpa using h
  have hcl := TY b i
  have c0 : decide ((0 : Int) ≤ (i : Int)) = true := by simp
  by_cases h1 : bits .and .u32 (b.fdiv (2 ^ min i 32)) 1 = 1
  ·have hs : chN b (i + 1) = chN b i ++ [(i : Int)] := by simp [chN, aHW, h1]
   simp (maxSteps := 2000000) only [go_sem, reduceIte, Nat.reduceEqDiff, Nat.reduceAdd, Nat.reduceLT, Nat.reduceLeDiff, Nat.reduceBEq, Nat.reduceMul, Ox, c0, h1, bound, iD]
   refine ⟨by simp; omega, ?_⟩
   simp (maxSteps := 2000000) only [go_sem, Ox, An hlt (show r.ps.length ≤ 140737488355328 by omega)]
   refine ⟨i + 1, hlt, by omega, ?_⟩
   refine ent_weaken [] (by simp only [hs, List.append_nil, List.length_append, AM]; rfl) rfl (Nat.zero_le _) rfl rfl ?_
   simp (maxSteps := 2000000) only [go_sem, reduceIte, Nat.reduceEqDiff, Nat.reduceAdd, Nat.reduceLT, Ox, hs, List.map_append, iD]
   all_goals first | exact .refl _ | exact ⟨.refl _, .refl _⟩ | exact ⟨.refl _, .refl _, .refl _⟩ | exact ⟨.refl _, _, rfl⟩ | exact ⟨_, rfl⟩ | exact ⟨.refl _, [], by simp⟩ | exact ⟨[], by simp⟩
  ·have hs : chN b (i + 1) = chN b i := by simp [chN, aHW, h1]
   simp (maxSteps := 2000000) only [go_sem, reduceIte, Nat.reduceEqDiff, Nat.reduceAdd, Ox, c0, h1, bound, An hlt (show r.ps.length ≤ 140737488355328 by omega)]
   refine ⟨i + 1, hlt, by omega, ?_⟩
   refine ent_weaken [] (by simp only [hs, List.append_nil, AM]) rfl (Nat.zero_le _) rfl rfl ?_
   simp (maxSteps := 2000000) only [go_sem, reduceIte, Nat.reduceEqDiff, Nat.reduceAdd, Nat.reduceLT, Ox, hs]
   all_goals first | exact .refl _ | exact ⟨.refl _, .refl _⟩ | exact ⟨.refl _, .refl _, .refl _⟩ | exact ⟨.refl _, _, rfl⟩ | exact ⟨_, rfl⟩ | exact ⟨.refl _, [], by simp⟩ | exact ⟨[], by simp⟩
 ·have hi' : i = r.ps.length := by simp at h; omega
  subst hi'
  simp (maxSteps := 2000000) only [go_sem, reduceIte, Nat.reduceEqDiff, Nat.reduceAdd, Ox, ints]
  all_goals first | exact .refl _ | exact ⟨.refl _, .refl _⟩ | exact ⟨.refl _, .refl _, .refl _⟩ | exact ⟨.refl _, _, rfl⟩ | exact ⟨_, rfl⟩ | exact ⟨.refl _, [], by simp⟩ | exact ⟨[], by simp⟩
end Go.Proofs.YtfgdbeijjbijnaaGreatDoor
set_option linter.unusedSimpArgs false
set_option linter.unusedVariables false
set_option maxRecDepth 100000
namespace Go.Proofs.YtfgdbeijjbijnaaGreatDoor.Zo
open Go Go.Abs Go.Proofs
def E1 (n : Nat) (dir : Nat → Bool) (f : Nat → Int) : Prop := ∀ k, k + 1 < n → if dir (k + 1) then f (k + 1) ≤ f k else f k ≤ f (k + 1)
def upA (dir : Nat → Bool) (L : Nat → Int) : Nat → Int
 | 0 => L 0
 | k + 1 => if dir (k + 1) then L (k + 1) else max (L (k + 1)) (upA dir L k)
def upB (dir : Nat → Bool) (L : Nat → Int) : Nat → Nat → Int
 | 0, k => L k
 | m + 1, k => if dir (k + 1) then max (L k) (upB dir L m (k + 1)) else L k
def Lo (n : Nat) (dir : Nat → Bool) (L : Nat → Int) (k : Nat) : Int := max (upA dir L k) (upB dir L (n - 1 - k) k)
theorem aDd (dir : Nat → Bool) (L : Nat → Int) : ∀ k, L k ≤ upA dir L k
 | 0 => Int.le_refl _
 | k + 1 => by rw [upA]; split <;> omega
theorem aHX (dir : Nat → Bool) (L : Nat → Int) : ∀ m k, L k ≤ upB dir L m k
 | 0, k => Int.le_refl _
 | m + 1, k => by rw [upB]; split <;> omega
theorem IN (n : Nat) (dir : Nat → Bool) (L : Nat → Int) (k : Nat) : L k ≤ Lo n dir L k := by
 have := aDd dir L k
 unfold Lo; omega
theorem aDe {dir : Nat → Bool} {L : Nat → Int} {n k : Nat} (hk : k + 1 < n) : upB dir L (n - 1 - k) k = if dir (k + 1) then max (L k) (upB dir L (n - 1 - (k + 1)) (k + 1)) else L k := by
 rw [show n - 1 - k = (n - 1 - (k + 1)) + 1 by omega, upB]
theorem E2 (n : Nat) (dir : Nat → Bool) (L : Nat → Int) : E1 n dir (Lo n dir L) := fun k hk => by
 have hB := aDe (dir := dir) (L := L) hk
 have a := aDd dir L k
 have b := aHX dir L (n - 1 - (k + 1)) (k + 1)
 unfold Lo
 cases hd : dir (k + 1) with
 | true =>
  rw [hd, if_pos rfl] at hB
  rw [if_pos rfl, upA, hd, if_pos rfl]
  omega
 | false =>
  rw [hd, if_neg (by decide)] at hB
  rw [if_neg (by decide), upA, hd, if_neg (by decide)]
  omega
theorem aDf {n : Nat} {dir : Nat → Bool} {L f : Nat → Int} (hm : E1 n dir f) (hL : ∀ k, k < n → L k ≤ f k) : ∀ k, k < n → upA dir L k ≤ f k
 | 0, h => hL 0 h
 | k + 1, h => by
  have ih := aDf hm hL k (by omega)
  have h1 := hL (k + 1) h
  have h2 := hm k h
  rw [upA]
  cases hd : dir (k + 1) with
  | true => rw [if_pos rfl]; exact h1
  | false =>
   rw [hd, if_neg (by decide)] at h2
   rw [if_neg (by decide)]; omega
theorem aDg {n : Nat} {dir : Nat → Bool} {L f : Nat → Int} (hm : E1 n dir f) (hL : ∀ k, k < n → L k ≤ f k) : ∀ m k, k + m < n → upB dir L m k ≤ f k
 | 0, k, h => hL k h
 | m + 1, k, h => by
  have ih := aDg hm hL m (k + 1) (by omega)
  have h1 := hL k (by omega)
  have h2 := hm k (by omega)
  rw [upB]
  cases hd : dir (k + 1) with
  | true =>
   rw [hd, if_pos rfl] at h2
   rw [if_pos rfl]; omega
  | false => rw [if_neg (by decide)]; exact h1
theorem aF4 {n : Nat} {dir : Nat → Bool} {L f : Nat → Int} (hm : E1 n dir f) (hL : ∀ k, k < n → L k ≤ f k) {k : Nat} (hk : k < n) : Lo n dir L k ≤ f k := by
 have a := aDf hm hL k hk
 have b := aDg hm hL (n - 1 - k) k (by omega)
 unfold Lo; omega
def Hi (n : Nat) (dir : Nat → Bool) (H : Nat → Int) (k : Nat) : Int := -Lo n (fun j => !dir j) (fun j => -H j) k
theorem aDh {n : Nat} {dir : Nat → Bool} {f : Nat → Int} : E1 n dir f ↔ E1 n (fun j => !dir j) (fun j => -f j) := by
 unfold E1
 refine ⟨fun h k hk => ?_, fun h k hk => ?_⟩
 ·have := h k hk
  cases hd : dir (k + 1) <;> simp [hd] at this ⊢ <;> omega
 ·have := h k hk
  cases hd : dir (k + 1) <;> simp [hd] at this ⊢ <;> omega
theorem aF5 (n : Nat) (dir : Nat → Bool) (H : Nat → Int) (k : Nat) : Hi n dir H k ≤ H k := by
 have := IN n (fun j => !dir j) (fun j => -H j) k
 unfold Hi; omega
theorem TZ (n : Nat) (dir : Nat → Bool) (H : Nat → Int) : E1 n dir (Hi n dir H) := by
 rw [aDh]
 have := E2 n (fun j => !dir j) (fun j => -H j)
 unfold Hi
 simpa using this
theorem aF6 {n : Nat} {dir : Nat → Bool} {L f : Nat → Int} (hm : E1 n dir f) (hL : ∀ k, k < n → L k ≤ f k) (hle : ∀ g, E1 n dir g → (∀ k, k < n → L k ≤ g k) → ∀ k, k < n → f k ≤ g k) {k : Nat} (hk : k < n) : f k = Lo n dir L k := by
 have a := aF4 hm hL hk
 have b := hle (Lo n dir L) (E2 n dir L) (fun j _ => IN n dir L j) k hk
 omega
def upd (f : Nat → Int) (k : Nat) (v : Int) (j : Nat) : Int := if j = k then v else f j
def BN (dir : Nat → Bool) (f : Nat → Int) (k : Nat) : Nat → Int := if dir k then upd f (k - 1) (max (f (k - 1)) (f k)) else upd f k (max (f k) (f (k - 1)))
def AP (dir : Nat → Bool) (f : Nat → Int) : Nat → Nat → Int
 | 0 => f
 | m + 1 => BN dir (AP dir f m) (m + 1)
def AR (n : Nat) (dir : Nat → Bool) (f : Nat → Int) : Nat → Nat → Int
 | 0 => f
 | r + 1 => AP dir (AR n dir f r) (n - 1)
theorem FH (dir : Nat → Bool) (f : Nat → Int) (k j : Nat) : f j ≤ BN dir f k j := by
 unfold BN upd
 split <;> dsimp only <;> split <;> (try subst_vars) <;> omega
theorem CN (dir : Nat → Bool) (f : Nat → Int) (j : Nat) : ∀ m, f j ≤ AP dir f m j
 | 0 => Int.le_refl _
 | m + 1 => Int.le_trans (CN dir f j m) (FH dir _ _ j)
theorem aDi {n : Nat} {dir : Nat → Bool} {f g : Nat → Int} (hm : E1 n dir g) (h : ∀ k, k < n → f k ≤ g k) {k : Nat} (hk0 : 0 < k) (hk : k < n) : ∀ j, j < n → BN dir f k j ≤ g j := fun j hj => by
 obtain ⟨p, rfl⟩ : ∃ p, k = p + 1 := ⟨k - 1, by omega⟩
 have h1 := hm p hk
 have h2 := h j hj
 have h3 := h p (by omega)
 have h4 := h (p + 1) hk
 unfold BN upd
 rw [show p + 1 - 1 = p from rfl]
 cases hd : dir (p + 1) with
 | true =>
  rw [hd, if_pos rfl] at h1
  rw [if_pos rfl]
  split
  ·subst_vars; omega
  ·exact h2
 | false =>
  rw [hd, if_neg (by decide)] at h1
  rw [if_neg (by decide)]
  split
  ·subst_vars; omega
  ·exact h2
theorem F6 {n : Nat} {dir : Nat → Bool} {f g : Nat → Int} (hm : E1 n dir g) (h : ∀ k, k < n → f k ≤ g k) : ∀ m, m < n → ∀ j, j < n → AP dir f m j ≤ g j
 | 0, _ => h
 | m + 1, hm1 => aDi hm (F6 hm h m (by omega)) (by omega) hm1
theorem Ee {n : Nat} {dir : Nat → Bool} {f g : Nat → Int} (hn : 0 < n) (hm : E1 n dir g) (h : ∀ k, k < n → f k ≤ g k) : ∀ r j, j < n → AR n dir f r j ≤ g j
 | 0 => h
 | r + 1 => F6 hm (Ee hn hm h r) (n - 1) (by omega)
theorem E3 (n : Nat) (dir : Nat → Bool) (f : Nat → Int) (j : Nat) : ∀ r, f j ≤ AR n dir f r j
 | 0 => Int.le_refl _
 | r + 1 => Int.le_trans (E3 n dir f j r) (CN dir _ j _)
theorem OA {dir : Nat → Bool} {L f : Nat → Int} (h : ∀ k, L k ≤ f k) : ∀ m k, k ≤ m → upA dir L k ≤ AP dir f m k
 | 0, k, hk => by
  have : k = 0 := by omega
  subst this
  exact h 0
 | m + 1, k, hk => by
  by_cases e : k = m + 1
  ·subst e
   have ih := OA (dir := dir) h m m (Nat.le_refl _)
   have h2 := CN dir f (m + 1) m
   have h3 := h (m + 1)
   rw [AP, upA]
   cases hd : dir (m + 1) with
   | true =>
    rw [if_pos rfl]
    exact Int.le_trans (Int.le_trans h3 h2) (FH dir _ _ _)
   | false =>
    rw [if_neg (by decide)]
    unfold BN upd
    rw [hd, if_neg (by decide), if_pos rfl, show m + 1 - 1 = m from rfl]
    omega
  ·exact Int.le_trans (OA h m k (by omega)) (FH dir _ _ _)
theorem aFx {dir : Nat → Bool} {f : Nat → Int} {m k : Nat} (hk : k + 1 ≤ m) (hd : dir (k + 1) = true) : f (k + 1) ≤ AP dir f m k := by
 have h1 : f (k + 1) ≤ AP dir f (k + 1) k := by
  have h2 := CN dir f (k + 1) k
  rw [AP]
  unfold BN upd
  rw [hd, if_pos rfl, show k + 1 - 1 = k from rfl, if_pos rfl]
  omega
 have h3 : ∀ d, AP dir f (k + 1) k ≤ AP dir f (k + 1 + d) k := fun d => by
  induction d with
  | zero => exact Int.le_refl _
  | succ d ih => exact Int.le_trans ih (FH dir _ _ _)
 have := h3 (m - (k + 1))
 rw [show k + 1 + (m - (k + 1)) = m by omega] at this
 omega
theorem Qi {n : Nat} {dir : Nat → Bool} {L : Nat → Int} : ∀ r k, k + r < n → upB dir L r k ≤ AR n dir L r k
 | 0, k, h => Int.le_refl _
 | r + 1, k, h => by
  have ih := Qi (n := n) (dir := dir) (L := L) r (k + 1) (by omega)
  have h0 := E3 n dir L k (r + 1)
  rw [upB]
  cases hd : dir (k + 1) with
  | true =>
   have h1 := aFx (f := AR n dir L r) (m := n - 1) (k := k) (by omega) hd
   rw [if_pos rfl]
   have h2 : AP dir (AR n dir L r) (n - 1) k = AR n dir L (r + 1) k := rfl
   omega
  | false => rw [if_neg (by decide)]; exact h0
theorem IP (n : Nat) (dir : Nat → Bool) (f : Nat → Int) (j : Nat) {r s : Nat} (h : r ≤ s) : AR n dir f r j ≤ AR n dir f s j := by
 induction s with
 | zero => have : r = 0 := by omega
           subst this; exact Int.le_refl _
 | succ s ih =>
  by_cases e : r = s + 1
  ·subst e; exact Int.le_refl _
  ·exact Int.le_trans (ih (by omega)) (CN dir _ j _)
theorem M0 {n : Nat} (hn : 0 < n) (dir : Nat → Bool) (L : Nat → Int) {k : Nat} (hk : k < n) : AR n dir L n k = Lo n dir L k := by
 have a := Ee hn (E2 n dir L) (fun j _ => IN n dir L j) n k hk
 have b : upB dir L (n - 1 - k) k ≤ AR n dir L n k := Int.le_trans (Qi (n - 1 - k) k (by omega)) (IP n dir L k (by omega))
 have c : upA dir L k ≤ AR n dir L n k := by
  have h1 := OA (dir := dir) (L := L) (f := L) (fun _ => Int.le_refl _) (n - 1) k (by omega)
  have h2 := IP n dir L k (r := 1) (s := n) hn
  exact Int.le_trans h1 h2
 unfold Lo at a ⊢
 omega
def C5 (dir : Nat → Bool) (f : Nat → Int) (k : Nat) : Nat → Int := if dir k then upd f k (min (f k) (f (k - 1))) else upd f (k - 1) (min (f (k - 1)) (f k))
def Cr (dir : Nat → Bool) (f : Nat → Int) : Nat → Nat → Int
 | 0 => f
 | m + 1 => C5 dir (Cr dir f m) (m + 1)
def BW (n : Nat) (dir : Nat → Bool) (f : Nat → Int) : Nat → Nat → Int
 | 0 => f
 | r + 1 => Cr dir (BW n dir f r) (n - 1)
theorem U9 (dir : Nat → Bool) (f : Nat → Int) (k : Nat) : (fun j => -C5 dir f k j) = BN (fun j => !dir j) (fun j => -f j) k := funext fun j => by
 cases hd : dir k with
 | false =>
  have e1 : C5 dir f k = upd f (k - 1) (min (f (k - 1)) (f k)) := by unfold C5; rw [hd]; rfl
  have e2 : BN (fun j => !dir j) (fun j => -f j) k = upd (fun j => -f j) (k - 1) (max (-f (k - 1)) (-f k)) := by unfold BN; simp only [hd]; rfl
  rw [e1, e2]
  unfold upd
  split
  ·omega
  ·rfl
 | true =>
  have e1 : C5 dir f k = upd f k (min (f k) (f (k - 1))) := by unfold C5; rw [hd]; rfl
  have e2 : BN (fun j => !dir j) (fun j => -f j) k = upd (fun j => -f j) k (max (-f k) (-f (k - 1))) := by unfold BN; simp only [hd]; rfl
  rw [e1, e2]
  unfold upd
  split
  ·omega
  ·rfl
theorem E4 (dir : Nat → Bool) (f : Nat → Int) : ∀ m, (fun j => -Cr dir f m j) = AP (fun j => !dir j) (fun j => -f j) m
 | 0 => rfl
 | m + 1 => by rw [AP, ← E4 dir f m, ← U9]; rfl
theorem Es (n : Nat) (dir : Nat → Bool) (f : Nat → Int) : ∀ r, (fun j => -BW n dir f r j) = AR n (fun j => !dir j) (fun j => -f j) r
 | 0 => rfl
 | r + 1 => by rw [AR, ← Es n dir f r, ← E4]; rfl
theorem Va {n : Nat} (hn : 0 < n) (dir : Nat → Bool) (H : Nat → Int) {k : Nat} (hk : k < n) : BW n dir H n k = Hi n dir H k := by
 have h := congrFun (Es n dir H n) k
 have h2 := M0 hn (fun j => !dir j) (fun j => -H j) hk
 have h : -BW n dir H n k = AR n (fun j => !dir j) (fun j => -H j) n k := h
 unfold Hi
 omega
def Run (dir : Nat → Bool) (b : Bool) (i k : Nat) : Prop := ∀ j, i < j → j ≤ k → dir j = b
theorem T0 (dir : Nat → Bool) (L : Nat → Int) : ∀ k, ∃ i, i ≤ k ∧ Run dir false i k ∧ upA dir L k = L i
 | 0 => ⟨0, Nat.le_refl _, fun j h1 h2 => by omega, rfl⟩
 | k + 1 => by
  rw [upA]
  cases hd : dir (k + 1) with
  | true => exact ⟨k + 1, Nat.le_refl _, fun j h1 h2 => by omega, by rw [if_pos rfl]⟩
  | false =>
   obtain ⟨i, h1, h2, h3⟩ := T0 dir L k
   rw [if_neg (by decide)]
   by_cases hm : upA dir L k ≤ L (k + 1)
   ·exact ⟨k + 1, Nat.le_refl _, fun j h1 h2 => by omega, by omega⟩
   ·refine ⟨i, by omega, fun j hj1 hj2 => ?_, by omega⟩
    by_cases e : j = k + 1
    ·subst e; exact hd
    ·exact h2 j hj1 (by omega)
theorem T1 (dir : Nat → Bool) (L : Nat → Int) : ∀ m k, ∃ i, k ≤ i ∧ i ≤ k + m ∧ Run dir true k i ∧ upB dir L m k = L i
 | 0, k => ⟨k, Nat.le_refl _, Nat.le_refl _, fun j h1 h2 => by omega, rfl⟩
 | m + 1, k => by
  rw [upB]
  cases hd : dir (k + 1) with
  | false => exact ⟨k, Nat.le_refl _, by omega, fun j h1 h2 => by omega, by rw [if_neg (by decide)]⟩
  | true =>
   obtain ⟨i, h1, h2, h3, h4⟩ := T1 dir L m (k + 1)
   rw [if_pos rfl]
   by_cases hm : upB dir L m (k + 1) ≤ L k
   ·exact ⟨k, Nat.le_refl _, by omega, fun j h1 h2 => by omega, by omega⟩
   ·refine ⟨i, by omega, by omega, fun j hj1 hj2 => ?_, by omega⟩
    by_cases e : j = k + 1
    ·subst e; exact hd
    ·exact h3 j (by omega) hj2
theorem Sf {n : Nat} (dir : Nat → Bool) (L : Nat → Int) {k : Nat} (hk : k < n) : ∃ i, i < n ∧ ((i ≤ k ∧ Run dir false i k) ∨ (k ≤ i ∧ Run dir true k i)) ∧ Lo n dir L k = L i := by
 obtain ⟨a, a1, a2, a3⟩ := T0 dir L k
 obtain ⟨b, b1, b2, b3, b4⟩ := T1 dir L (n - 1 - k) k
 unfold Lo
 by_cases hm : upB dir L (n - 1 - k) k ≤ upA dir L k
 ·exact ⟨a, by omega, .inl ⟨a1, a2⟩, by omega⟩
 ·exact ⟨b, by omega, .inr ⟨b1, b3⟩, by omega⟩
theorem aDj {n : Nat} (dir : Nat → Bool) (H : Nat → Int) {k : Nat} (hk : k < n) : ∃ i, i < n ∧ ((i ≤ k ∧ Run dir true i k) ∨ (k ≤ i ∧ Run dir false k i)) ∧ Hi n dir H k = H i := by
 obtain ⟨i, h1, h2, h3⟩ := Sf (fun j => !dir j) (fun j => -H j) hk
 refine ⟨i, h1, ?_, by unfold Hi; omega⟩
 rcases h2 with ⟨a, b⟩ | ⟨a, b⟩
 ·exact .inl ⟨a, fun j h1 h2 => by have := b j h1 h2; simpa using this⟩
 ·exact .inr ⟨a, fun j h1 h2 => by have := b j h1 h2; simpa using this⟩
theorem Vb {n : Nat} (dir : Nat → Bool) (L H : Nat → Int) (h0 : ∀ k, k < n → L k ≤ H k) : (∃ k, k < n ∧ Hi n dir H k < Lo n dir L k) ↔ ∃ i k, i < k ∧ k < n ∧ ((Run dir true i k ∧ H i < L k) ∨ (Run dir false i k ∧ H k < L i)) := by
 constructor
 ·rintro ⟨k, hk, h⟩
  obtain ⟨i, i1, i2, i3⟩ := Sf dir L hk
  obtain ⟨j, j1, j2, j3⟩ := aDj dir H hk
  rw [i3, j3] at h
  have hne : i ≠ j := fun e => by subst e; have := h0 i i1; omega
  rcases i2 with ⟨a, ra⟩ | ⟨a, ra⟩ <;> rcases j2 with ⟨b, rb⟩ | ⟨b, rb⟩
  ·
   by_cases e1 : i = k
   ·subst e1
    exact ⟨j, i, by omega, i1, .inl ⟨rb, h⟩⟩
   ·by_cases e2 : j = k
    ·subst e2
     exact ⟨i, j, by omega, j1, .inr ⟨ra, h⟩⟩
    ·have h1 := ra k (by omega) (Nat.le_refl _)
     have h2 := rb k (by omega) (Nat.le_refl _)
     rw [h1] at h2; cases h2
  ·refine ⟨i, j, by omega, j1, .inr ⟨fun m h1 h2 => ?_, h⟩⟩
   by_cases e : m ≤ k
   ·exact ra m h1 e
   ·exact rb m (by omega) h2
  ·refine ⟨j, i, by omega, i1, .inl ⟨fun m h1 h2 => ?_, h⟩⟩
   by_cases e : m ≤ k
   ·exact rb m h1 e
   ·exact ra m (by omega) h2
  ·by_cases e1 : i = k
   ·subst e1
    exact ⟨i, j, by omega, j1, .inr ⟨rb, h⟩⟩
   ·by_cases e2 : j = k
    ·subst e2
     exact ⟨j, i, by omega, i1, .inl ⟨ra, h⟩⟩
    ·have h1 := ra (k + 1) (by omega) (by omega)
     have h2 := rb (k + 1) (by omega) (by omega)
     rw [h1] at h2; cases h2
 ·rintro ⟨i, k, hik, hk, h⟩
  have run_t : ∀ (f : Nat → Int), E1 n dir f → ∀ d, i + d ≤ k → (Run dir true i k → f (i + d) ≤ f i) ∧ (Run dir false i k → f i ≤ f (i + d)) := fun f hm d => by
   induction d with
   | zero => intro _; exact ⟨fun _ => Int.le_refl _, fun _ => Int.le_refl _⟩
   | succ d ih =>
    intro hd
    have ih := ih (by omega)
    have h1 := hm (i + d) (by omega)
    refine ⟨fun r => ?_, fun r => ?_⟩
    ·have h2 := r (i + d + 1) (by omega) (by omega)
     rw [h2, if_pos rfl] at h1
     have := ih.1 r
     rw [show i + (d + 1) = i + d + 1 by omega]; omega
    ·have h2 := r (i + d + 1) (by omega) (by omega)
     rw [h2, if_neg (by decide)] at h1
     have := ih.2 r
     rw [show i + (d + 1) = i + d + 1 by omega]; omega
  have hL := run_t _ (E2 n dir L) (k - i) (by omega)
  rw [show i + (k - i) = k by omega] at hL
  have g1 := IN n dir L i
  have g2 := IN n dir L k
  have g3 := aF5 n dir H i
  have g4 := aF5 n dir H k
  rcases h with ⟨r, h⟩ | ⟨r, h⟩
  ·have := hL.1 r
   exact ⟨i, by omega, by omega⟩
  ·have := hL.2 r
   exact ⟨k, hk, by omega⟩
end Go.Proofs.YtfgdbeijjbijnaaGreatDoor.Zo
set_option linter.unusedSimpArgs false
set_option linter.unusedVariables false
set_option maxRecDepth 100000
namespace Go.Proofs.YtfgdbeijjbijnaaGreatDoor.Zo
open Go Go.Abs Go.Proofs
theorem aDk {dir : Nat → Bool} {f : Nat → Int} {k : Nat} (h : ∀ j, BN dir f (k + 1) j = f j) : if dir (k + 1) then f (k + 1) ≤ f k else f k ≤ f (k + 1) := by
 have h1 := h k
 have h2 := h (k + 1)
 unfold BN upd at h1 h2
 rw [show k + 1 - 1 = k from rfl] at h1 h2
 cases hd : dir (k + 1) with
 | true =>
  rw [hd, if_pos rfl, if_pos rfl] at h1
  rw [if_pos rfl]; omega
 | false =>
  rw [hd, if_neg (by decide), if_pos rfl] at h2
  rw [if_neg (by decide)]; omega
theorem M1 {dir : Nat → Bool} {f : Nat → Int} : ∀ m, (∀ j, AP dir f m j = f j) → ∀ k, k < m → (∀ j, AP dir f k j = f j) ∧ ∀ j, BN dir (AP dir f k) (k + 1) j = AP dir f k j
 | 0, _, k, hk => by omega
 | m + 1, h, k, hk => by
  have hm : ∀ j, AP dir f m j = f j := fun j => by
   have h1 := CN dir f j m
   have h2 := FH dir (AP dir f m) (m + 1) j
   have h3 : BN dir (AP dir f m) (m + 1) j = f j := h j
   omega
  by_cases e : k = m
  ·subst e
   exact ⟨hm, fun j => by rw [hm j]; exact h j⟩
  ·exact M1 m hm k (by omega)
theorem aDl {n : Nat} {dir : Nat → Bool} {f : Nat → Int} (h : ∀ j, AP dir f (n - 1) j = f j) : E1 n dir f := fun k hk => by
 obtain ⟨h1, h2⟩ := M1 (n - 1) h k (by omega)
 have e : AP dir f k = f := funext h1
 rw [e] at h2
 exact aDk h2
theorem aDm {n : Nat} {dir : Nat → Bool} {L f : Nat → Int} (hn : 0 < n) (r : Nat) (hf : f = AR n dir L r) (h : ∀ j, AP dir f (n - 1) j = f j) {k : Nat} (hk : k < n) : f k = Lo n dir L k :=
 aF6 (aDl h) (fun j _ => by rw [hf]; exact E3 n dir L j r) (fun g hg hL j hj => by rw [hf]; exact Ee hn hg hL r j hj) hk
structure Lay (m n : Nat) (P : Nat → Nat) (da : Nat → Bool) (dir : Nat → Bool) : Prop where
 m2 : 2 ≤ m
 p0 : P 0 = 0
 pn : P (m - 1) + 1 = n
 up : ∀ i, i + 1 < m → P i < P (i + 1)
 d : ∀ i, i + 1 < m → ∀ k, P i < k → k ≤ P (i + 1) → dir k = da (i + 1)
theorem Lay.gap {m n : Nat} {P : Nat → Nat} {da dir : Nat → Bool} (h : Lay m n P da dir) {k : Nat} (hk0 : 0 < k) (hk : k < n) : ∃ i, i + 1 < m ∧ P i < k ∧ k ≤ P (i + 1) := by
 have key : ∀ j, j < m → k ≤ P j → ∃ i, i + 1 < m ∧ P i < k ∧ k ≤ P (i + 1) := fun j => by
  induction j with
  | zero => intro _ h2; rw [h.p0] at h2; omega
  | succ j ih =>
   intro hj hkj
   by_cases e : k ≤ P j
   ·exact ih (by omega) e
   ·exact ⟨j, hj, by omega, hkj⟩
 have := h.m2
 have := h.pn
 exact key (m - 1) (by omega) (by omega)
theorem Lay.lt {m n : Nat} {P : Nat → Nat} {da dir : Nat → Bool} (h : Lay m n P da dir) : ∀ {i : Nat}, i < m → P i < n := fun {i} hi => by
 have key : ∀ d, i + d < m → P i ≤ P (i + d) := fun d => by
  induction d with
  | zero => intro _; exact Nat.le_refl _
  | succ d ih =>
   intro hd
   have := ih (by omega)
   have := h.up (i + d) (by omega)
   rw [show i + (d + 1) = i + d + 1 by omega]; omega
 have h1 := key (m - 1 - i) (by omega)
 rw [show i + (m - 1 - i) = m - 1 by omega] at h1
 have := h.pn
 omega
theorem HH {m n : Nat} {P : Nat → Nat} {da dir : Nat → Bool} (h : Lay m n P da dir) {g : Nat → Int} (hg : E1 n dir g) {i : Nat} (hi : i + 1 < m) : ∀ d k, P i ≤ k → k + d ≤ P (i + 1) → if da (i + 1) then g (k + d) ≤ g k else g k ≤ g (k + d)
 | 0, k, h1, h2 => by split <;> exact Int.le_refl _
 | d + 1, k, h1, h2 => by
  have ih := HH h hg hi d k h1 (by omega)
  have hlt := h.lt hi
  have hs := hg (k + d) (by omega)
  rw [h.d i hi (k + d + 1) (by omega) (by omega)] at hs
  rw [show k + (d + 1) = k + d + 1 by omega]
  split at ih
  ·rename_i hd
   rw [hd, if_pos rfl] at hs
   rw [if_pos hd]; omega
  ·rename_i hd
   rw [if_neg hd] at hs
   rw [if_neg hd]; omega
theorem M2 {m n : Nat} {P : Nat → Nat} {da dir : Nat → Bool} (h : Lay m n P da dir) {l L F : Nat → Int} {c : Int} (hl0 : ∀ i, i < m → c ≤ l i) (hLP : ∀ i, i < m → L (P i) = l i) (hL0 : ∀ k, k < n → (∀ i, i < m → P i ≠ k) → L k = c)
  (hFP : ∀ i, i < m → F (P i) = Lo m da l i) (hFG : ∀ i, i + 1 < m → ∀ k, P i < k → k < P (i + 1) → F k = if da (i + 1) then Lo m da l (i + 1) else Lo m da l i) {k : Nat} (hk : k < n) : F k = Lo n dir L k := by
 have fm := E2 m da l
 refine aF6 (fun k hk => ?_) (fun k hk => ?_) (fun g hg hgL k hk => ?_) hk
 ·obtain ⟨i, hi, h1, h2⟩ := h.gap (k := k + 1) (by omega) hk
  have hs := fm i hi
  rw [h.d i hi (k + 1) h1 h2]
  have ek : F k = if da (i + 1) then (if k = P i then Lo m da l i else Lo m da l (i + 1)) else Lo m da l i := by
   by_cases e : k = P i
   ·subst e
    rw [hFP i (by omega), if_pos rfl]
    split <;> rfl
   ·rw [hFG i hi k (by omega) (by omega), if_neg e]
  have ek1 : F (k + 1) = if da (i + 1) then Lo m da l (i + 1) else (if k + 1 = P (i + 1) then Lo m da l (i + 1) else Lo m da l i) := by
   by_cases e : k + 1 = P (i + 1)
   ·rw [e, hFP (i + 1) hi, if_pos rfl]
    split <;> rfl
   ·rw [hFG i hi (k + 1) (by omega) (by omega), if_neg e]
  rw [ek, ek1]
  cases hd : da (i + 1) with
  | true =>
   rw [hd, if_pos rfl] at hs
   rw [if_pos rfl, if_pos rfl, if_pos rfl]
   split <;> omega
  | false =>
   rw [hd, if_neg (by decide)] at hs
   rw [if_neg (by decide), if_neg (by decide), if_neg (by decide)]
   split <;> omega
 ·by_cases e : ∃ i, i < m ∧ P i = k
  ·obtain ⟨i, hi, rfl⟩ := e
   rw [hLP i hi, hFP i hi]; exact IN m da l i
  ·rw [hL0 k hk (fun i hi h2 => e ⟨i, hi, h2⟩)]
   have hk0 : 0 < k := by
    by_cases e2 : 0 < k
    ·exact e2
    ·exact absurd ⟨0, by have := h.m2; omega, by rw [h.p0]; omega⟩ e
   obtain ⟨i, hi, h1, h2⟩ := h.gap hk0 hk
   have hne : k ≠ P (i + 1) := fun e2 => e ⟨i + 1, hi, e2.symm⟩
   rw [hFG i hi k h1 (by omega)]
   have a := IN m da l i
   have b := IN m da l (i + 1)
   have := hl0 i (by omega)
   have := hl0 (i + 1) hi
   split <;> omega
 ·have gm : E1 m da (fun i => g (P i)) := fun i hi => by
   have := HH h hg hi (P (i + 1) - P i) (P i) (Nat.le_refl _) (by have := h.up i hi; omega)
   rwa [show P i + (P (i + 1) - P i) = P (i + 1) by have := h.up i hi; omega] at this
  have hfg : ∀ i, i < m → Lo m da l i ≤ g (P i) := fun i hi => aF4 gm (fun j hj => by have := hgL (P j) (h.lt hj); rwa [hLP j hj] at this) hi
  by_cases e : ∃ i, i < m ∧ P i = k
  ·obtain ⟨i, hi, rfl⟩ := e
   rw [hFP i hi]; exact hfg i hi
  ·have hk0 : 0 < k := by
    by_cases e2 : 0 < k
    ·exact e2
    ·exact absurd ⟨0, by have := h.m2; omega, by rw [h.p0]; omega⟩ e
   obtain ⟨i, hi, h1, h2⟩ := h.gap hk0 hk
   have hne : k ≠ P (i + 1) := fun e2 => e ⟨i + 1, hi, e2.symm⟩
   rw [hFG i hi k h1 (by omega)]
   have a := HH h hg hi (k - P i) (P i) (Nat.le_refl _) (by omega)
   have b := HH h hg hi (P (i + 1) - k) k (by omega) (by omega)
   rw [show P i + (k - P i) = k by omega] at a
   rw [show k + (P (i + 1) - k) = P (i + 1) by omega] at b
   have c1 := hfg i (by omega)
   have c2 := hfg (i + 1) hi
   cases hd : da (i + 1) with
   | true =>
    rw [hd, if_pos rfl] at b
    rw [if_pos rfl]; omega
   | false =>
    rw [hd, if_neg (by decide)] at a
    rw [if_neg (by decide)]; omega
theorem Lay.neg {m n : Nat} {P : Nat → Nat} {da dir : Nat → Bool} (h : Lay m n P da dir) : Lay m n P (fun j => !da j) (fun j => !dir j) :=
 ⟨h.m2, h.p0, h.pn, h.up, fun i hi k h1 h2 => by rw [h.d i hi k h1 h2]⟩
theorem Vc {m n : Nat} {P : Nat → Nat} {da dir : Nat → Bool} (h : Lay m n P da dir) {l H F : Nat → Int} {c : Int} (hl0 : ∀ i, i < m → l i ≤ c) (hHP : ∀ i, i < m → H (P i) = l i) (hH0 : ∀ k, k < n → (∀ i, i < m → P i ≠ k) → H k = c)
  (hFP : ∀ i, i < m → F (P i) = Hi m da l i) (hFG : ∀ i, i + 1 < m → ∀ k, P i < k → k < P (i + 1) → F k = if da (i + 1) then Hi m da l i else Hi m da l (i + 1)) {k : Nat} (hk : k < n) : F k = Hi n dir H k := by
 have := M2 (l := fun i => -l i) (L := fun k => -H k) (F := fun k => -F k) (c := -c) h.neg (fun i hi => by have := hl0 i hi; omega) (fun i hi => by rw [hHP i hi]) (fun k hk hn => by rw [hH0 k hk hn])
  (fun i hi => by rw [hFP i hi]; unfold Hi; omega) (fun i hi k h1 h2 => by
   rw [hFG i hi k h1 h2]
   unfold Hi
   cases da (i + 1) <;> simp) hk
 unfold Hi
 omega
theorem aHY {n : Nat} {dir : Nat → Bool} {H f : Nat → Int} (hn : 0 < n) (r : Nat) (hf : f = BW n dir H r) (h : ∀ j, Cr dir f (n - 1) j = f j) {k : Nat} (hk : k < n) : f k = Hi n dir H k := by
 have e := aDm (dir := fun j => !dir j) (L := fun j => -H j) (f := fun j => -f j) hn r (by rw [hf, ← Es]) (fun j => by
  rw [← E4]
  have := h j
  show -Cr dir f (n - 1) j = -f j
  omega) hk
 unfold Hi
 omega
end Go.Proofs.YtfgdbeijjbijnaaGreatDoor.Zo
set_option linter.unusedSimpArgs false
set_option linter.unusedVariables false
set_option maxRecDepth 100000
namespace Go.Proofs.YtfgdbeijjbijnaaGreatDoor.Zo
open Go Go.Abs Go.Proofs
structure True' (n : Nat) (dir : Nat → Bool) (L H f : Nat → Int) : Prop where
 m : E1 n dir f
 l : ∀ k, k < n → L k ≤ f k
 h : ∀ k, k < n → f k ≤ H k
theorem M3 {n : Nat} {dir : Nat → Bool} {L H f : Nat → Int} (h : ∀ k, k < n → Lo n dir L k ≤ Hi n dir H k) {k : Nat} (hk : k + 1 < n) (hf : Lo n dir L k ≤ f k ∧ f k ≤ Hi n dir H k) :
  (dir (k + 1) = true → Lo n dir L (k + 1) ≤ min (Hi n dir H (k + 1)) (f k)) ∧ (dir (k + 1) = false → max (Lo n dir L (k + 1)) (f k) ≤ Hi n dir H (k + 1)) := by
 have a := E2 n dir L k hk
 have b := TZ n dir H k hk
 have c := h (k + 1) hk
 refine ⟨fun hd => ?_, fun hd => ?_⟩
 ·rw [hd, if_pos rfl] at a; omega
 ·rw [hd, if_neg (by decide)] at b; omega
end Go.Proofs.YtfgdbeijjbijnaaGreatDoor.Zo
set_option linter.unusedSimpArgs false
set_option linter.unusedVariables false
set_option maxRecDepth 100000
namespace Go.Proofs.YtfgdbeijjbijnaaGreatDoor.Zo
open Go Go.Abs Go.Proofs
structure Rg where
 lo : Int
 hi : Int
structure La where
 an : List Int
 li : List Rg
 fa : List Bool
 we : List Int
def gI (l : List Int) (i : Nat) : Int := l.getD i 0
def gR (l : List Rg) (i : Nat) : Rg := l.getD i ⟨0, 0⟩
def gB (l : List Bool) (i : Nat) : Bool := l.getD i false
theorem gI_lt {l : List Int} {i : Nat} (h : i < l.length) : l[i]? = some (gI l i) := by simp [gI, List.getD, h]
theorem M4 {l : List Rg} {i : Nat} (h : i < l.length) : l[i]? = some (gR l i) := by simp [gR, List.getD, h]
theorem M5 {l : List Bool} {i : Nat} (h : i < l.length) : l[i]? = some (gB l i) := by simp [gB, List.getD, h]
theorem Sg {l : List Rg} {i : Nat} (h : l.length ≤ i) : gR l i = ⟨0, 0⟩ := by simp [gR, List.getD, h]
def C7 (p : Nat → Bool) : Nat → Nat
 | 0 => 0
 | n + 1 => if C7 p n < n then C7 p n else if p n then n else n + 1
theorem DM {p : Nat → Bool} {i : Nat} (hp : p i = true) (h : ∀ j, j < i → p j = false) : ∀ {n : Nat}, i < n → C7 p n = i
 | 0, hi => by omega
 | n + 1, hi => by
  have none : ∀ m, m ≤ i → C7 p m = m := fun m => by
   induction m with
   | zero => intro _; rfl
   | succ m ih =>
    intro hm
    rw [C7, ih (by omega), if_neg (by omega), h m (by omega)]; rfl
  by_cases e : i = n
  ·subst e
   rw [C7, none i (Nat.le_refl _), if_neg (by omega), if_pos hp]
  ·have ih := DM hp h (n := n) (by omega)
   rw [C7, ih, if_pos (by omega)]
theorem DR {p : Nat → Bool} : ∀ {n : Nat}, (∀ j, j < n → p j = false) → C7 p n = n
 | 0, _ => rfl
 | n + 1, h => by rw [C7, DR (n := n) (fun j hj => h j (by omega)), if_neg (by omega), h n (by omega)]; rfl
theorem JJ {p : Nat → Bool} : ∀ {n : Nat}, C7 p n < n → p (C7 p n) = true ∧ ∀ j, j < C7 p n → p j = false
 | 0, h => by simp [C7] at h
 | n + 1, h => by
  rw [C7] at h ⊢
  by_cases e : C7 p n < n
  ·rw [if_pos e]; exact JJ e
  ·rw [if_neg e] at h ⊢
   cases hp : p n with
   | false => rw [hp, if_neg (by decide)] at h; omega
   | true =>
    rw [if_pos rfl]
    refine ⟨hp, fun j hj => ?_⟩
    have none : ∀ m, ¬ C7 p m < m → ∀ j, j < m → p j = false := fun m => by
     induction m with
     | zero => intro _ j hj; omega
     | succ m ih =>
      intro hm j hj
      rw [C7] at hm
      by_cases e2 : C7 p m < m
      ·rw [if_pos e2] at hm; omega
      ·rw [if_neg e2] at hm
       by_cases e3 : j = m
       ·subst e3
        cases hq : p j with
        | false => rfl
        | true => rw [hq, if_pos rfl] at hm; omega
       ·exact ih e2 j (by omega)
    exact none n e j hj
def rgB (top : Int) (r : Rg) : Bool := !decide (r.lo < 0) && (!decide (r.hi < r.lo) && !decide (top < r.hi))
theorem OB (top : Int) (r : Rg) : rgB top r = true ↔ 0 ≤ r.lo ∧ r.lo ≤ r.hi ∧ r.hi ≤ top := by simp [rgB]
def prv (l : List Int) (i : Nat) : Int := if i = 0 then -1 else gI l (i - 1)
def Ds (l : List Int) (i : Nat) : Bool := decide (gI l i ≤ prv l i) || decide (90 < gI l i)
def Gg (w : Int) : Bool := decide (w < 0) || decide (1000 < w)
def CF (l : La) : Int :=
 if l.an.length < 2 ∨ 10 < l.an.length then 6 else if C7 (Ds l.an) l.an.length < l.an.length then 2
 else if ¬ (l.li.length = l.an.length ∧ l.fa.length + 1 = l.an.length ∧ (l.we.length : Int) = gI l.an (l.an.length - 1) - gI l.an 0 + 1) then 15
 else if l.li.all (rgB 200) = true ∧ l.we.any Gg = false then 0 else 2
structure Bc (l : La) : Prop where
 m2 : 2 ≤ l.an.length
 m11 : l.an.length ≤ 11
 a0 : ∀ i, i < l.an.length → 0 ≤ gI l.an i ∧ gI l.an i ≤ 90
 up : ∀ i, i + 1 < l.an.length → gI l.an i < gI l.an (i + 1)
 li : l.li.length = l.an.length
 fa : l.fa.length + 1 = l.an.length
 we : (l.we.length : Int) = gI l.an (l.an.length - 1) - gI l.an 0 + 1
 lr : ∀ i, i < l.an.length → 0 ≤ (gR l.li i).lo ∧ (gR l.li i).lo ≤ (gR l.li i).hi ∧ (gR l.li i).hi ≤ 200
 wr : ∀ k, k < l.we.length → 0 ≤ gI l.we k ∧ gI l.we k ≤ 1000
theorem E5 {l : List Int} (h : ∀ i, i < l.length → Ds l i = false) : (∀ i, i < l.length → 0 ≤ gI l i ∧ gI l i ≤ 90) ∧ ∀ i, i + 1 < l.length → gI l i < gI l (i + 1) := by
 have h2 : ∀ i, i < l.length → prv l i < gI l i ∧ gI l i ≤ 90 := fun i hi => by have := h i hi; simp [Ds] at this; omega
 have h3 : ∀ i, i < l.length → 0 ≤ gI l i := fun i => by
  induction i with
  | zero => intro hi; have := (h2 0 hi).1; simp [prv] at this; omega
  | succ i ih => intro hi; have := (h2 (i + 1) hi).1; have := ih (by omega); simp [prv] at *; omega
 exact ⟨fun i hi => ⟨h3 i hi, (h2 i hi).2⟩, fun i hi => by have := (h2 (i + 1) hi).1; simpa [prv] using this⟩
theorem Sh {l : List Int} (h0 : ∀ i, i < l.length → 0 ≤ gI l i ∧ gI l i ≤ 90) (h1 : ∀ i, i + 1 < l.length → gI l i < gI l (i + 1)) : ∀ i, i < l.length → Ds l i = false := fun i hi => by
 have a := h0 i hi
 cases i with
 | zero => simp [Ds, prv]; omega
 | succ i => have b := h1 i hi; simp [Ds, prv]; omega
theorem aDn (l : La) : CF l = 0 ↔ Bc l ∧ l.an.length ≤ 10 := by
 unfold CF
 constructor
 ·intro h
  split at h
  ·simp at h
  rename_i h1
  split at h
  ·simp at h
  rename_i h2
  split at h
  ·simp at h
  rename_i h3
  split at h
  case isFalse => simp at h
  rename_i h4
  obtain ⟨b1, b2, b3⟩ := Classical.not_not.1 h3
  have hg : ∀ i, i < l.an.length → Ds l.an i = false := fun i hi => by
   cases hb : Ds l.an i with
   | false => rfl
   | true =>
    exfalso
    apply h2
    have key : ∀ j, j ≤ i → (∀ k, k < j → Ds l.an k = false) → C7 (Ds l.an) l.an.length < l.an.length := fun j => by
     induction hd : i - j generalizing j with
     | zero =>
      intro hj hk
      have : j = i := by omega
      subst this
      rw [DM hb hk hi]; exact hi
     | succ d ih =>
      intro hj hk
      cases hbj : Ds l.an j with
      | true => rw [DM hbj hk (by omega)]; omega
      | false => exact ih (j + 1) (by omega) (by omega) (fun k hk2 => by
        by_cases e : k = j
        ·subst e; exact hbj
        ·exact hk k (by omega))
    exact key 0 (by omega) (fun k hk => by omega)
  obtain ⟨c1, c2⟩ := E5 hg
  refine ⟨⟨by omega, by omega, c1, c2, b1, b2, b3, fun i hi => ?_, fun k hk => ?_⟩, by omega⟩
  ·exact (OB _ _).1 (List.all_eq_true.1 h4.1 _ (List.mem_of_getElem? (M4 (by omega))))
  ·have := List.any_eq_false.1 h4.2 _ (List.mem_of_getElem? (gI_lt hk))
   simp [Gg] at this; omega
 ·rintro ⟨h, h10⟩
  have := h.m2
  rw [if_neg (by omega), if_neg (by rw [DR (Sh h.a0 h.up)]; omega), if_neg (fun e => e ⟨h.li, h.fa, h.we⟩), if_pos]
  refine ⟨List.all_eq_true.2 fun r hr => ?_, List.any_eq_false.2 fun w hw => ?_⟩
  ·obtain ⟨i, hi⟩ := List.getElem?_of_mem hr
   have hlt := (List.getElem?_eq_some_iff.1 hi).1
   rw [M4 hlt] at hi
   cases hi
   exact (OB _ _).2 (h.lr i (by rw [← h.li]; exact hlt))
  ·obtain ⟨i, hi⟩ := List.getElem?_of_mem hw
   have hlt := (List.getElem?_eq_some_iff.1 hi).1
   rw [gI_lt hlt] at hi
   cases hi
   have := h.wr i hlt
   simp [Gg]; omega
def P (l : La) (i : Nat) : Nat := (gI l.an i - gI l.an 0).toNat
def E6 (l : La) (d : Int) : Nat := C7 (fun i => decide (d ≤ gI l.an (i + 1))) (l.an.length - 1)
def dir (l : La) (k : Nat) : Bool := gB l.fa (E6 l (gI l.an 0 + k))
def da (l : La) (i : Nat) : Bool := gB l.fa (i - 1)
def Cf (l : La) (k : Nat) : Nat := C7 (fun i => decide (gI l.an i = gI l.an 0 + k)) l.an.length
theorem Bc.le {l : La} (h : Bc l) : ∀ {i j : Nat}, i ≤ j → j < l.an.length → gI l.an i ≤ gI l.an j := fun {i j} hij hj => by
 induction j with
 | zero => have : i = 0 := by omega
           subst this; exact Int.le_refl _
 | succ j ih =>
  by_cases e : i = j + 1
  ·subst e; exact Int.le_refl _
  ·have := ih (by omega) (by omega); have := h.up j hj; omega
theorem Bc.lt {l : La} (h : Bc l) {i j : Nat} (hij : i < j) (hj : j < l.an.length) : gI l.an i < gI l.an j := by
 have := h.le (i := i + 1) (j := j) (by omega) hj
 have := h.up i (by omega)
 omega
theorem Bc.p {l : La} (h : Bc l) {i : Nat} (hi : i < l.an.length) : (P l i : Int) = gI l.an i - gI l.an 0 := by
 have := h.le (Nat.zero_le i) hi
 unfold P; omega
theorem Bc.n91 {l : La} (h : Bc l) : 2 ≤ l.we.length ∧ l.we.length ≤ 91 := by
 have := h.m2
 have a := h.a0 0 (by omega)
 have b := h.a0 (l.an.length - 1) (by omega)
 have c := h.we
 have d := h.lt (i := 0) (j := l.an.length - 1) (by omega) (by omega)
 omega
theorem OC {l : La} (h : Bc l) {d : Int} {i : Nat} (hi : i + 1 < l.an.length) (h1 : gI l.an i < d) (h2 : d ≤ gI l.an (i + 1)) : E6 l d = i := by
 refine DM (by simpa using h2) (fun j hj => ?_) (by omega)
 have := h.le (i := j + 1) (j := i) (by omega) (by omega)
 simp; omega
theorem Dg {l : La} (h : Bc l) {i : Nat} (hi : i < l.an.length) : Cf l (P l i) = i := by
 have := h.p hi
 refine DM (by simp; omega) (fun j hj => ?_) hi
 have := h.lt hj hi
 simp; omega
theorem OD {l : La} (h : Bc l) {k : Nat} (hk : Cf l k < l.an.length) : P l (Cf l k) = k := by
 have h1 := (JJ hk).1
 simp at h1
 have h2 : gI l.an (Cf l k) = gI l.an 0 + k := h1
 have := h.p hk
 omega
theorem Si {l : La} {k : Nat} (h : Bc l) (hk : ∀ i, i < l.an.length → P l i ≠ k) : Cf l k = l.an.length := by
 refine DR (fun j hj => ?_)
 have := hk j hj
 have := h.p hj
 simp; omega
theorem lay {l : La} (h : Bc l) : Lay l.an.length l.we.length (P l) (da l) (dir l) where
 m2 := h.m2
 p0 := by simp [P]
 pn := by
  have := h.m2
  have a := h.p (i := l.an.length - 1) (by omega)
  have := h.we
  omega
 up := fun i hi => by
  have a := h.p (i := i) (by omega)
  have b := h.p (i := i + 1) hi
  have := h.up i hi
  omega
 d := fun i hi k h1 h2 => by
  have a := h.p (i := i) (by omega)
  have b := h.p (i := i + 1) hi
  unfold dir da
  rw [OC h hi (by omega) (by omega)]
  rfl
def L0m (l : La) (m : Nat) (k : Nat) : Int := if Cf l k < m then (gR l.li (Cf l k)).lo else 0
def H0m (l : La) (m : Nat) (k : Nat) : Int := if Cf l k < m then (gR l.li (Cf l k)).hi else 200
def L0 (l : La) : Nat → Int := L0m l l.an.length
def H0 (l : La) : Nat → Int := H0m l l.an.length
theorem aFy {l : La} (h : Bc l) {i : Nat} (hi : i < l.an.length) : upd (L0m l i) (P l i) (gR l.li i).lo = L0m l (i + 1) := funext fun k => by
 unfold upd L0m
 by_cases e : k = P l i
 ·subst e
  rw [if_pos rfl, Dg h hi, if_pos (by omega)]
 ·rw [if_neg e]
  have : Cf l k ≠ i := fun e2 => e (by have := OD h (k := k) (by omega); rw [e2] at this; exact this.symm)
  by_cases e3 : Cf l k < i
  ·rw [if_pos e3, if_pos (by omega)]
  ·rw [if_neg e3, if_neg (by omega)]
theorem aFz {l : La} (h : Bc l) {i : Nat} (hi : i < l.an.length) : upd (H0m l i) (P l i) (gR l.li i).hi = H0m l (i + 1) := funext fun k => by
 unfold upd H0m
 by_cases e : k = P l i
 ·subst e
  rw [if_pos rfl, Dg h hi, if_pos (by omega)]
 ·rw [if_neg e]
  have : Cf l k ≠ i := fun e2 => e (by have := OD h (k := k) (by omega); rw [e2] at this; exact this.symm)
  by_cases e3 : Cf l k < i
  ·rw [if_pos e3, if_pos (by omega)]
  ·rw [if_neg e3, if_neg (by omega)]
def bl (l : La) (k : Nat) : Int := Lo l.we.length (dir l) (L0 l) k
def bh (l : La) (k : Nat) : Int := Hi l.we.length (dir l) (H0 l) k
def dbB (l : La) : Bool := (List.range l.we.length).any fun k => decide (bh l k < bl l k)
theorem JK (l : La) : dbB l = true ↔ ∃ k, k < l.we.length ∧ bh l k < bl l k := by simp [dbB]
theorem OE {l : La} (h : dbB l = false) {k : Nat} (hk : k < l.we.length) : bl l k ≤ bh l k := by
 have h2 : ¬ bh l k < bl l k := fun e => (Bool.eq_false_iff.1 h) ((JK l).2 ⟨k, hk, e⟩)
 omega
theorem Qj {l : La} (h : Bc l) (k : Nat) : 0 ≤ L0 l k ∧ L0 l k ≤ H0 l k ∧ H0 l k ≤ 200 := by
 unfold L0 H0 L0m H0m
 by_cases e : Cf l k < l.an.length
 ·rw [if_pos e, if_pos e]; exact h.lr _ e
 ·rw [if_neg e, if_neg e]; decide
theorem aDo {l : La} (h : Bc l) {k : Nat} (hk : k < l.we.length) : 0 ≤ bl l k ∧ bl l k ≤ 200 := by
 obtain ⟨i, _, _, e⟩ := Sf (dir l) (L0 l) hk
 have := Qj h i
 unfold bl; omega
theorem aDp {l : La} (h : Bc l) {k : Nat} (hk : k < l.we.length) : 0 ≤ bh l k ∧ bh l k ≤ 200 := by
 obtain ⟨i, _, _, e⟩ := aDj (dir l) (H0 l) hk
 have := Qj h i
 unfold bh; omega
def ilv (f g : Nat → Int) (j : Nat) : Int := if j % 2 = 0 then f (j / 2) else g (j / 2)
theorem OF (f g : Nat → Int) (i : Nat) : ilv f g (2 * i) = f i := by unfold ilv; rw [if_pos (by omega)]; congr 1; omega
theorem OG (f g : Nat → Int) (i : Nat) : ilv f g (2 * i + 1) = g i := by unfold ilv; rw [if_neg (by omega)]; congr 1; omega
theorem M6 (f g : Nat → Int) (i : Nat) (v : Int) : upd (ilv f g) (2 * i) v = ilv (upd f i v) g := funext fun j => by
 unfold upd ilv
 dsimp only
 by_cases e : j = 2 * i
 ·subst e; rw [if_pos rfl, if_pos (by omega), if_pos (by omega)]
 ·rw [if_neg e]
  split
  ·rw [if_neg (by omega)]
  ·rfl
theorem M7 (f g : Nat → Int) (i : Nat) (v : Int) : upd (ilv f g) (2 * i + 1) v = ilv f (upd g i v) := funext fun j => by
 unfold upd ilv
 dsimp only
 by_cases e : j = 2 * i + 1
 ·subst e; rw [if_pos rfl, if_neg (by omega), if_pos (by omega)]
 ·rw [if_neg e]
  split
  ·rfl
  ·rw [if_neg (by omega)]
def lis (l : La) (i : Nat) : Int := (gR l.li i).lo
def his (l : La) (i : Nat) : Int := (gR l.li i).hi
def alo (l : La) (i : Nat) : Int := Lo l.an.length (da l) (lis l) i
def ahi (l : La) (i : Nat) : Int := Hi l.an.length (da l) (his l) i
def spL (l : La) (f : Nat → Int) (k : Nat) : Int := if Cf l k < l.an.length then f (Cf l k) else if da l (E6 l (gI l.an 0 + k) + 1) then f (E6 l (gI l.an 0 + k) + 1) else f (E6 l (gI l.an 0 + k))
def spH (l : La) (f : Nat → Int) (k : Nat) : Int := if Cf l k < l.an.length then f (Cf l k) else if da l (E6 l (gI l.an 0 + k) + 1) then f (E6 l (gI l.an 0 + k)) else f (E6 l (gI l.an 0 + k) + 1)
theorem aPU {l : La} (h : Bc l) {i : Nat} (hi : i < l.an.length) : L0 l (P l i) = lis l i := by unfold L0 L0m; rw [Dg h hi, if_pos hi]; rfl
theorem aPV {l : La} (h : Bc l) {i : Nat} (hi : i < l.an.length) : H0 l (P l i) = his l i := by unfold H0 H0m; rw [Dg h hi, if_pos hi]; rfl
theorem HI {l : La} (h : Bc l) {i k : Nat} (hi : i + 1 < l.an.length) (h1 : P l i < k) (h2 : k < P l (i + 1)) : Cf l k = l.an.length ∧ E6 l (gI l.an 0 + k) = i := by
 have a := h.p (i := i) (by omega)
 have b := h.p (i := i + 1) hi
 refine ⟨Si h (fun j hj e => ?_), OC h hi (by omega) (by omega)⟩
 subst e
 have c := h.p hj
 by_cases e2 : j ≤ i
 ·have := h.le e2 (by omega); omega
 ·have := h.le (i := i + 1) (j := j) (by omega) hj; omega
theorem OH {l : La} (h : Bc l) {k : Nat} (hk : k < l.we.length) : spL l (alo l) k = bl l k := by
 refine M2 (lay h) (l := lis l) (L := L0 l) (F := spL l (alo l)) (c := 0) (fun i hi => (h.lr i hi).1) (fun i hi => aPU h hi) (fun k hk hn => ?_) (fun i hi => ?_) (fun i hi k h1 h2 => ?_) hk
 ·unfold L0 L0m; rw [Si h hn, if_neg (by omega)]
 ·unfold spL; rw [Dg h hi, if_pos hi]; rfl
 ·obtain ⟨e1, e2⟩ := HI h hi h1 h2
  unfold spL; rw [e1, e2, if_neg (by omega)]; rfl
theorem OI {l : La} (h : Bc l) {k : Nat} (hk : k < l.we.length) : spH l (ahi l) k = bh l k := by
 refine Vc (lay h) (l := his l) (H := H0 l) (F := spH l (ahi l)) (c := 200) (fun i hi => (h.lr i hi).2.2) (fun i hi => aPV h hi) (fun k hk hn => ?_) (fun i hi => ?_) (fun i hi k h1 h2 => ?_) hk
 ·unfold H0 H0m; rw [Si h hn, if_neg (by omega)]
 ·unfold spH; rw [Dg h hi, if_pos hi]; rfl
 ·obtain ⟨e1, e2⟩ := HI h hi h1 h2
  unfold spH; rw [e1, e2, if_neg (by omega)]; rfl
end Go.Proofs.YtfgdbeijjbijnaaGreatDoor.Zo
set_option linter.unusedSimpArgs false
set_option linter.unusedVariables false
set_option maxRecDepth 100000
namespace Go.Proofs.YtfgdbeijjbijnaaGreatDoor.Zo
open Go Go.Abs Go.Proofs
def KX (l : La) (i k : Nat) : Bool := !((l.fa.take k).drop i).any (fun x => x == !gB l.fa i) && (if gB l.fa i then decide (his l i < lis l k) else decide (his l k < lis l i))
theorem aFA {l : La} {i k : Nat} (_ : i < k) (hk : k ≤ l.fa.length) : (((l.fa.take k).drop i).any (fun x => x == !gB l.fa i) = false) ↔ Run (da l) (gB l.fa i) i k := by
 rw [List.any_eq_false]
 constructor
 ·intro h j h1 h2
  have := h (gB l.fa (j - 1)) (List.mem_of_getElem? (i := j - 1 - i) (by rw [List.getElem?_drop, List.getElem?_take, if_pos (by omega), show i + (j - 1 - i) = j - 1 by omega]; exact M5 (by omega)))
  unfold da
  cases h3 : gB l.fa (j - 1) <;> cases h4 : gB l.fa i <;> simp [h3, h4] at this <;> rfl
 ·intro h x hx
  obtain ⟨d, hd⟩ := List.getElem?_of_mem hx
  rw [List.getElem?_drop, List.getElem?_take] at hd
  split at hd
  ·rename_i h1
   have h2 := h (i + d + 1) (by omega) (by omega)
   rw [M5 (by omega)] at hd
   cases hd
   unfold da at h2
   rw [show i + d + 1 - 1 = i + d by omega] at h2
   rw [h2]
   cases gB l.fa i <;> simp
  ·cases hd
theorem Qk {l : La} {i k : Nat} (hik : i < k) (hk : k ≤ l.fa.length) : KX l i k = true ↔ (Run (da l) true i k ∧ his l i < lis l k) ∨ (Run (da l) false i k ∧ his l k < lis l i) := by
 have h := aFA (l := l) hik hk
 have hr : ∀ b, Run (da l) b i k → gB l.fa i = b := fun b hb => hb (i + 1) (by omega) (by omega)
 unfold KX
 rw [Bool.and_eq_true, Bool.not_eq_true', h]
 cases hf : gB l.fa i with
 | true =>
  rw [if_pos rfl, decide_eq_true_eq]
  constructor
  ·intro h; exact .inl h
  ·rintro (h | ⟨h, _⟩)
   ·exact h
   ·have := hr _ h; rw [hf] at this; cases this
 | false =>
  rw [if_neg (by decide), decide_eq_true_eq]
  constructor
  ·intro h; exact .inr h
  ·rintro (⟨h, _⟩ | h)
   ·have := hr _ h; rw [hf] at this; cases this
   ·exact h
def Ql (l : La) (i : Nat) : Nat := C7 (fun k => decide (i < k) && KX l i k) l.an.length
def cI (l : La) : Nat := C7 (fun i => decide (Ql l i < l.an.length)) l.an.length
def C6 (l : La) : Nat × Nat := if cI l < l.an.length then (cI l, Ql l (cI l)) else (0, 0)
theorem GQ {l : La} (h : cI l < l.an.length) : (C6 l).1 < (C6 l).2 ∧ (C6 l).2 < l.an.length ∧ KX l (C6 l).1 (C6 l).2 = true := by
 have h1 := (JJ h).1
 have h2 : Ql l (cI l) < l.an.length := of_decide_eq_true h1
 have h3 := (JJ h2).1
 simp only [Bool.and_eq_true, decide_eq_true_eq] at h3
 unfold C6
 rw [if_pos h]
 exact ⟨h3.1, h2, h3.2⟩
theorem Sj {l : La} (h : ¬ cI l < l.an.length) {i k : Nat} (hik : i < k) (hk : k < l.an.length) : KX l i k = false := by
 cases hc : KX l i k with
 | false => rfl
 | true =>
  exfalso
  have key : ∀ (p : Nat → Bool) (n i : Nat), i < n → p i = true → C7 p n < n := fun p n i hi hp => by
   refine Classical.not_not.1 fun hn => ?_
   have none : ∀ m, ¬ C7 p m < m → ∀ j, j < m → p j = false := fun m => by
    induction m with
    | zero => intro _ j hj; omega
    | succ m ih =>
     intro hm j hj
     rw [C7] at hm
     by_cases e2 : C7 p m < m
     ·rw [if_pos e2] at hm; omega
     ·rw [if_neg e2] at hm
      by_cases e3 : j = m
      ·subst e3
       cases hq : p j with
       | false => rfl
       | true => rw [hq, if_pos rfl] at hm; omega
      ·exact ih e2 j (by omega)
   rw [none n hn i hi] at hp; cases hp
  have h1 : Ql l i < l.an.length := key _ _ k hk (by simp [hik, hc])
  exact h (key _ _ i (by omega) (by simpa using h1))
theorem Vd {l : La} (h : Bc l) : dbB l = true ↔ ∃ i, i < l.an.length ∧ ahi l i < alo l i := by
 rw [JK]
 constructor
 ·rintro ⟨k, hk, hb⟩
  rw [← OH h hk, ← OI h hk] at hb
  by_cases e : Cf l k < l.an.length
  ·unfold spL spH at hb
   rw [if_pos e, if_pos e] at hb
   exact ⟨_, e, hb⟩
  ·have hk0 : 0 < k := by
    by_cases e2 : 0 < k
    ·exact e2
    ·have hm := h.m2
     have hz : k = 0 := by omega
     subst hz
     have := Dg h (i := 0) (by omega)
     rw [(lay h).p0] at this
     exact absurd (by rw [this]; omega) e
   obtain ⟨i, hi, h1, h2⟩ := (lay h).gap hk0 hk
   have hne : k ≠ P l (i + 1) := fun e2 => e (by rw [e2, Dg h hi]; exact hi)
   obtain ⟨e1, e2⟩ := HI h hi h1 (by omega)
   unfold spL spH at hb
   simp only [e1, e2, Nat.lt_irrefl, if_false] at hb
   have a := E2 l.an.length (da l) (lis l) i hi
   have b := TZ l.an.length (da l) (his l) i hi
   cases hd : da l (i + 1) with
   | true =>
    rw [hd, if_pos rfl] at a b
    rw [hd, if_pos rfl, if_pos rfl] at hb
    exact ⟨i, by omega, by unfold alo ahi at *; omega⟩
   | false =>
    rw [hd, if_neg (by decide)] at a b
    rw [hd, if_neg (by decide), if_neg (by decide)] at hb
    exact ⟨i, by omega, by unfold alo ahi at *; omega⟩
 ·rintro ⟨i, hi, hb⟩
  have hP := (lay h).lt hi
  refine ⟨P l i, hP, ?_⟩
  rw [← OH h hP, ← OI h hP]
  unfold spL spH
  rw [Dg h hi, if_pos hi, if_pos hi]; exact hb
theorem M8 {l : La} (h : Bc l) : dbB l = true ↔ cI l < l.an.length := by
 have hfa := h.fa
 rw [Vd h]
 have h2 := Vb (n := l.an.length) (da l) (lis l) (his l) (fun k hk => (h.lr k hk).2.1)
 unfold ahi alo
 rw [h2]
 constructor
 ·rintro ⟨i, k, hik, hk, hc⟩
  refine Classical.not_not.1 fun hn => ?_
  have := Sj hn hik hk
  rw [(Qk hik (by omega)).2 hc] at this; cases this
 ·intro hc
  obtain ⟨a, b, c⟩ := GQ hc
  exact ⟨_, _, a, b, (Qk a (by omega)).1 c⟩
theorem Sk {l : La} (h : Bc l) : C6 l = (0, 0) ↔ dbB l = false := by
 rw [← Bool.not_eq_true, M8 h]
 constructor
 ·intro h1 h2
  have := (GQ h2).1
  rw [h1] at this; simp at this
 ·intro h1; unfold C6; rw [if_neg h1]
def rL (l : La) (r : Nat) : Nat → Int := AR l.an.length (da l) (lis l) r
def rH (l : La) (r : Nat) : Nat → Int := BW l.an.length (da l) (his l) r
theorem Ve {d : Nat → Bool} {f : Nat → Int} {k j : Nat} (h : k < j) : BN d f k j = f j := by
 unfold BN upd; split <;> dsimp only <;> rw [if_neg (by omega)]
theorem Vf {d : Nat → Bool} {f : Nat → Int} {k j : Nat} (h : k < j) : C5 d f k j = f j := by
 unfold C5 upd; split <;> dsimp only <;> rw [if_neg (by omega)]
theorem GR {d : Nat → Bool} {f : Nat → Int} {j : Nat} : ∀ {k : Nat}, k < j → AP d f k j = f j
 | 0, _ => rfl
 | k + 1, h => by rw [AP, Ve h, GR (by omega)]
theorem GS {d : Nat → Bool} {f : Nat → Int} {j : Nat} : ∀ {k : Nat}, k < j → Cr d f k j = f j
 | 0, _ => rfl
 | k + 1, h => by rw [Cr, Vf h, GS (by omega)]
theorem aDq (d : Nat → Bool) (f : Nat → Int) (k j : Nat) : C5 d f k j ≤ f j := by
 unfold C5 upd
 split <;> dsimp only <;> split <;> (try subst_vars) <;> omega
theorem F7 (d : Nat → Bool) (f : Nat → Int) (j : Nat) : ∀ m, Cr d f m j ≤ f j
 | 0 => Int.le_refl _
 | m + 1 => Int.le_trans (aDq d _ _ j) (F7 d f j m)
theorem KY (n : Nat) (d : Nat → Bool) (f : Nat → Int) (j : Nat) : ∀ r, BW n d f r j ≤ f j
 | 0 => Int.le_refl _
 | r + 1 => Int.le_trans (F7 d _ j _) (KY n d f j r)
theorem E7 (n : Nat) (d : Nat → Bool) (c : Int) : E1 n d (fun _ => c) := fun k _ => by dsimp only; split <;> exact Int.le_refl _
theorem Ip {l : La} (h : Bc l) {r j : Nat} (hj : l.an.length ≤ j) : rL l r j = 0 := by
 have := h.m2
 unfold rL
 induction r with
 | zero => unfold AR lis; rw [Sg (by rw [h.li]; exact hj)]
 | succ r ih => rw [AR, GR (by omega), ih]
theorem Iq {l : La} (h : Bc l) {r j : Nat} (hj : l.an.length ≤ j) : rH l r j = 0 := by
 have := h.m2
 unfold rH
 induction r with
 | zero => unfold BW his; rw [Sg (by rw [h.li]; exact hj)]
 | succ r ih => rw [BW, GS (by omega), ih]
theorem Sl {l : La} (h : Bc l) {r k : Nat} (hk : k < l.an.length) {j : Nat} : 0 ≤ AP (da l) (rL l r) k j ∧ AP (da l) (rL l r) k j ≤ 200 := by
 have := h.m2
 by_cases hj : j < l.an.length
 ·have a := F6 (E7 l.an.length (da l) 200) (f := rL l r) (fun i hi => Ee (by omega) (E7 l.an.length (da l) 200) (f := lis l) (fun q hq => by have := h.lr q hq; unfold lis; omega) r i hi) k hk j hj
  have b := CN (da l) (rL l r) j k
  have c := E3 l.an.length (da l) (lis l) j r
  have d := (h.lr j hj).1
  unfold rL at *; unfold lis at *; omega
 ·rw [GR (by omega), Ip h (by omega)]; decide
theorem aDr {l : La} (h : Bc l) {r k : Nat} (hk : k < l.an.length) {j : Nat} : 0 ≤ Cr (da l) (rH l r) k j ∧ Cr (da l) (rH l r) k j ≤ 200 := by
 have := h.m2
 by_cases hj : j < l.an.length
 ·have hneg := congrFun (E4 (da l) (rH l r) k) j
  have hneg2 := Es l.an.length (da l) (his l) r
  have a := F6 (E7 l.an.length (fun j => !da l j) 0) (f := fun j => -rH l r j) (fun i hi => by
   have := Ee (by omega) (E7 l.an.length (fun j => !da l j) 0) (f := fun j => -his l j) (fun q hq => by have := h.lr q hq; unfold his; omega) r i hi
   rw [← hneg2] at this; exact this) k hk j hj
  have b := F7 (da l) (rH l r) j k
  have c := KY l.an.length (da l) (his l) j r
  have d := (h.lr j hj).2.2
  have hneg : -Cr (da l) (rH l r) k j = AP (fun j => !da l j) (fun j => -rH l r j) k j := hneg
  unfold rH at *; unfold his at *; omega
 ·rw [GS (by omega), Iq h (by omega)]; decide
theorem aHZ {l : La} (h : Bc l) (r j : Nat) : 0 ≤ rL l r j ∧ rL l r j ≤ 200 := Sl (k := 0) h (by have := h.m2; omega)
theorem rH_0 {l : La} (h : Bc l) (r j : Nat) : 0 ≤ rH l r j ∧ rH l r j ≤ 200 := aDr (k := 0) h (by have := h.m2; omega)
def Jw (l : La) (r : Nat) : Nat → Nat
 | 0 => 0
 | i + 1 => Jw l r i + ((200 - rL l r i) + rH l r i).toNat
theorem aF7 (l : La) (r j : Nat) : rL l r j ≤ rL l (r + 1) j := CN (da l) _ j _
theorem T2 (l : La) (r j : Nat) : rH l (r + 1) j ≤ rH l r j := F7 (da l) _ j _
theorem T3 {l : La} (h : Bc l) (r : Nat) : ∀ m, Jw l (r + 1) m ≤ Jw l r m
 | 0 => Nat.le_refl _
 | m + 1 => by
  have ih := T3 h r m
  have := aF7 l r m
  have := T2 l r m
  rw [Jw, Jw]; omega
theorem T4 {l : La} (h : Bc l) {r j : Nat} (hj : rL l (r + 1) j ≠ rL l r j ∨ rH l (r + 1) j ≠ rH l r j) : ∀ m, j < m → Jw l (r + 1) m < Jw l r m
 | 0, hm => by omega
 | m + 1, hm => by
  have ih := T3 h r m
  have a := aF7 l r m
  have b := T2 l r m
  have c := aHZ h (r + 1) m
  have d := rH_0 h (r + 1) m
  rw [Jw, Jw]
  by_cases e : j = m
  ·subst e; omega
  ·have := T4 h hj m (by omega); omega
def eqN (n : Nat) (f g : Nat → Int) : Bool := (List.range n).all fun k => decide (f k = g k)
theorem Vg {l : La} (h : Bc l) {r : Nat} (hne : eqN 22 (ilv (rL l (r + 1)) (rH l (r + 1))) (ilv (rL l r) (rH l r)) = false) : Jw l (r + 1) l.an.length < Jw l r l.an.length := by
 unfold eqN at hne
 rw [List.all_eq_false] at hne
 obtain ⟨j, hj, hne⟩ := hne
 have hne : ilv (rL l (r + 1)) (rH l (r + 1)) j ≠ ilv (rL l r) (rH l r) j := by simpa using hne
 have hd : rL l (r + 1) (j / 2) ≠ rL l r (j / 2) ∨ rH l (r + 1) (j / 2) ≠ rH l r (j / 2) := by
  unfold ilv at hne
  split at hne
  ·exact .inl hne
  ·exact .inr hne
 refine T4 h hd _ (Classical.not_not.1 fun hn => ?_)
 rw [Ip h (by omega), Ip h (by omega), Iq h (by omega), Iq h (by omega)] at hd
 simp at hd
def aL (l : La) (i : Nat) : Int := if i < l.an.length then alo l i else 0
def aH (l : La) (i : Nat) : Int := if i < l.an.length then ahi l i else 0
theorem Vh {l : La} (h : Bc l) {r : Nat} (he : eqN 22 (ilv (rL l (r + 1)) (rH l (r + 1))) (ilv (rL l r) (rH l r)) = true) : rL l (r + 1) = aL l ∧ rH l (r + 1) = aH l := by
 have hm := h.m2
 have h11 := h.m11
 have h2 : ∀ i, rL l (r + 1) i = rL l r i ∧ rH l (r + 1) i = rH l r i := fun i => by
  by_cases hi : i < l.an.length
  ·have h3 : ∀ j, j < 22 → ilv (rL l (r + 1)) (rH l (r + 1)) j = ilv (rL l r) (rH l r) j := fun j hj => by
    have := List.all_eq_true.1 he j (List.mem_range.2 hj)
    simpa using this
   have a := h3 (2 * i) (by omega)
   have b := h3 (2 * i + 1) (by omega)
   rw [OF, OF] at a
   rw [OG, OG] at b
   exact ⟨a, b⟩
  ·rw [Ip h (by omega), Ip h (by omega), Iq h (by omega), Iq h (by omega)]; exact ⟨rfl, rfl⟩
 refine ⟨funext fun i => ?_, funext fun i => ?_⟩
 ·rw [(h2 i).1]
  unfold aL
  by_cases hi : i < l.an.length
  ·rw [if_pos hi]
   exact aDm (by omega) r rfl (fun j => (h2 j).1) hi
  ·rw [if_neg hi, Ip h (by omega)]
 ·rw [(h2 i).2]
  unfold aH
  by_cases hi : i < l.an.length
  ·rw [if_pos hi]
   exact aHY (by omega) r rfl (fun j => (h2 j).2) hi
  ·rw [if_neg hi, Iq h (by omega)]
def dkF (l : La) (q : Nat → Int) (k j : Nat) : Int := if j < k ∧ ¬ Cf l j < l.an.length then q j else 0
theorem T5 {l : La} {q : Nat → Int} {k : Nat} (hk : ¬ Cf l k < l.an.length) : upd (dkF l q k) k (q k) = dkF l q (k + 1) := funext fun j => by
 unfold upd dkF
 by_cases e : j = k
 ·subst e; rw [if_pos rfl, if_pos ⟨by omega, hk⟩]
 ·rw [if_neg e]
  by_cases h2 : j < k ∧ ¬ Cf l j < l.an.length
  ·rw [if_pos h2, if_pos ⟨by omega, h2.2⟩]
  ·rw [if_neg h2, if_neg (fun h3 => h2 ⟨by omega, h3.2⟩)]
theorem HJ {l : La} {q : Nat → Int} {k : Nat} (hk : Cf l k < l.an.length) : dkF l q k = dkF l q (k + 1) := funext fun j => by
 unfold dkF
 by_cases h2 : j < k ∧ ¬ Cf l j < l.an.length
 ·rw [if_pos h2, if_pos ⟨by omega, h2.2⟩]
 ·rw [if_neg h2, if_neg (fun h3 => h2 ⟨by
   by_cases e : j = k
   ·subst e; exact absurd hk h3.2
   ·omega, h3.2⟩)]
theorem Qm (l : La) (q : Nat → Int) : dkF l q 0 = fun _ => 0 := funext fun j => by unfold dkF; rw [if_neg (by omega)]
def eF (l : La) (q a : Nat → Int) (i j : Nat) : Int := if Cf l j < l.an.length then (if Cf l j < i then a (Cf l j) else 0) else if j < l.we.length then q j else 0
theorem T6 (l : La) (q a : Nat → Int) : dkF l q l.we.length = eF l q a 0 := funext fun j => by
 unfold dkF eF
 by_cases e : Cf l j < l.an.length
 ·rw [if_neg (fun h => h.2 e), if_pos e, if_neg (by omega)]
 ·rw [if_neg e]
  by_cases e2 : j < l.we.length
  ·rw [if_pos ⟨e2, e⟩, if_pos e2]
  ·rw [if_neg (fun h => e2 h.1), if_neg e2]
theorem aDs {l : La} (h : Bc l) {q a : Nat → Int} {i : Nat} (hi : i < l.an.length) : upd (eF l q a i) (P l i) (a i) = eF l q a (i + 1) := funext fun j => by
 unfold upd eF
 by_cases e : j = P l i
 ·subst e
  rw [if_pos rfl, Dg h hi, if_pos hi, if_pos (by omega)]
 ·rw [if_neg e]
  by_cases e2 : Cf l j < l.an.length
  ·rw [if_pos e2, if_pos e2]
   have hne : Cf l j ≠ i := fun e3 => e (by have := OD h e2; rw [e3] at this; exact this.symm)
   by_cases e3 : Cf l j < i
   ·rw [if_pos e3, if_pos (by omega)]
   ·rw [if_neg e3, if_neg (by omega)]
  ·rw [if_neg e2, if_neg e2]
def cut (n : Nat) (f : Nat → Int) (k : Nat) : Int := if k < n then f k else 0
theorem OJ {l : La} (h : Bc l) {j : Nat} (hj : Cf l j < l.an.length) : j < l.we.length := by
 have := (lay h).lt hj
 rw [OD h hj] at this; exact this
theorem aPW {l : La} (h : Bc l) : eF l (spL l (alo l)) (aL l) l.an.length = cut l.we.length (bl l) := funext fun j => by
 unfold eF cut
 by_cases e : Cf l j < l.an.length
 ·rw [if_pos e, if_pos e, if_pos (OJ h e), ← OH h (OJ h e)]
  unfold spL aL; rw [if_pos e, if_pos e]
 ·rw [if_neg e]
  by_cases e2 : j < l.we.length
  ·rw [if_pos e2, if_pos e2, OH h e2]
  ·rw [if_neg e2, if_neg e2]
theorem aPX {l : La} (h : Bc l) : eF l (spH l (ahi l)) (aH l) l.an.length = cut l.we.length (bh l) := funext fun j => by
 unfold eF cut
 by_cases e : Cf l j < l.an.length
 ·rw [if_pos e, if_pos e, if_pos (OJ h e), ← OI h (OJ h e)]
  unfold spH aH; rw [if_pos e, if_pos e]
 ·rw [if_neg e]
  by_cases e2 : j < l.we.length
  ·rw [if_pos e2, if_pos e2, OI h e2]
  ·rw [if_neg e2, if_neg e2]
end Go.Proofs.YtfgdbeijjbijnaaGreatDoor.Zo
