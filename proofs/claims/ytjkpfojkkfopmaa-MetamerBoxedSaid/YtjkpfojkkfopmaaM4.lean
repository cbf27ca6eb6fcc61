/- Metamers: truths. -/
import Derived.Test.YtjkpfojkkfopmaaM3
set_option linter.unusedSimpArgs false
set_option linter.unusedVariables false
set_option maxRecDepth 100000
namespace Go.Proofs.Ytjkpfojkkfopmaa
open Go Go.Abs Go.Proofs
def kp52 : List (Nat × List Nat) := [(0, [2, 3]), (1, [2, 3, 5]), (2, [2, 3, 30]), (3, [4]), (4, [2, 3, 33, 34, 35]), (5, [2, 3, 33, 34, 35, 36]), (6, [2, 3, 6, 7, 33, 34, 35]), (7, [2, 3, 6, 33, 34, 35, 51]), (8, [4]), (9, [2, 3, 6, 33, 34, 35, 53, 54, 55]), (10, [2, 3, 6, 33, 34, 35, 53, 54, 55, 56]), (11, [2, 3, 6, 8, 9, 33, 34, 35, 53, 54, 55]), (12, [2, 3, 6, 33, 34, 35, 53, 54, 55, 86]), (13, [4]), (14, [2, 3, 6, 33, 34, 35, 53, 54, 55]), (15, [2, 3, 33, 34, 35]), (16, [4])]
theorem lk52 : lookK kp52 0 = some [2, 3] ∧ lookK kp52 1 = some [2, 3, 5] ∧ lookK kp52 2 = some [2, 3, 30] ∧ lookK kp52 3 = some [4] ∧ lookK kp52 4 = some [2, 3, 33, 34, 35] ∧ lookK kp52 5 = some [2, 3, 33, 34, 35, 36] ∧ lookK kp52 6 = some [2, 3, 6, 7, 33, 34, 35] ∧ lookK kp52 7 = some [2, 3, 6, 33, 34, 35, 51] ∧ lookK kp52 8 = some [4] ∧ lookK kp52 9 = some [2, 3, 6, 33, 34, 35, 53, 54, 55] ∧ lookK kp52 10 = some [2, 3, 6, 33, 34, 35, 53, 54, 55, 56] ∧ lookK kp52 11 = some [2, 3, 6, 8, 9, 33, 34, 35, 53, 54, 55] ∧ lookK kp52 12 = some [2, 3, 6, 33, 34, 35, 53, 54, 55, 86] ∧ lookK kp52 13 = some [4] ∧ lookK kp52 14 = some [2, 3, 6, 33, 34, 35, 53, 54, 55] ∧ lookK kp52 15 = some [2, 3, 33, 34, 35] ∧ lookK kp52 16 = some [4] := ⟨rfl, rfl, rfl, rfl, rfl, rfl, rfl, rfl, rfl, rfl, rfl, rfl, rfl, rfl, rfl, rfl, rfl⟩
def kp30 : List (Nat × List Nat) := [(0, [2, 3]), (1, [2, 3, 5]), (2, [2, 3, 5, 22]), (3, [4]), (4, [2, 3, 5, 6]), (5, [2, 3, 5, 6, 24]), (6, [2, 3, 5, 6]), (7, [2, 3, 5, 6, 34]), (8, [4]), (9, [2, 3, 5, 7]), (10, [2, 3, 5, 7, 37]), (11, [2, 3, 5, 7]), (12, [2, 3, 5, 7, 65]), (13, [4]), (14, [2, 3, 5, 7, 8]), (15, [2, 3, 5, 7, 8, 67]), (16, [2, 3, 5, 7, 8]), (17, [2, 3, 5, 7, 8, 107]), (18, [4]), (19, [4])]
theorem lk30 : lookK kp30 0 = some [2, 3] ∧ lookK kp30 1 = some [2, 3, 5] ∧ lookK kp30 2 = some [2, 3, 5, 22] ∧ lookK kp30 3 = some [4] ∧ lookK kp30 4 = some [2, 3, 5, 6] ∧ lookK kp30 5 = some [2, 3, 5, 6, 24] ∧ lookK kp30 6 = some [2, 3, 5, 6] ∧ lookK kp30 7 = some [2, 3, 5, 6, 34] ∧ lookK kp30 8 = some [4] ∧ lookK kp30 9 = some [2, 3, 5, 7] ∧ lookK kp30 10 = some [2, 3, 5, 7, 37] ∧ lookK kp30 11 = some [2, 3, 5, 7] ∧ lookK kp30 12 = some [2, 3, 5, 7, 65] ∧ lookK kp30 13 = some [4] ∧ lookK kp30 14 = some [2, 3, 5, 7, 8] ∧ lookK kp30 15 = some [2, 3, 5, 7, 8, 67] ∧ lookK kp30 16 = some [2, 3, 5, 7, 8] ∧ lookK kp30 17 = some [2, 3, 5, 7, 8, 107] ∧ lookK kp30 18 = some [4] ∧ lookK kp30 19 = some [4] := ⟨rfl, rfl, rfl, rfl, rfl, rfl, rfl, rfl, rfl, rfl, rfl, rfl, rfl, rfl, rfl, rfl, rfl, rfl, rfl, rfl⟩

def upd (f : Nat → Int) (m : Nat) (v : Int) : Nat → Int := fun j => if j = m then v else f j
theorem upd_same (f : Nat → Int) (m : Nat) (v : Int) : upd f m v m = v := by simp [upd]
theorem upd_ne (f : Nat → Int) {m j : Nat} (v : Int) (h : j ≠ m) : upd f m v j = f j := by simp [upd, h]
def numsD (n : Nat) (f : Nat → Int) : List D := (List.range n).map (fun j => .int .i64 (f j))
theorem numsD_len (n : Nat) (f : Nat → Int) : (numsD n f).length = n := by simp [numsD]
theorem numsD_get {n : Nat} (f : Nat → Int) {j : Nat} (h : j < n) : (numsD n f)[j]? = some (.int .i64 (f j)) := by simp [numsD, h]
theorem numsD_set (n : Nat) (f : Nat → Int) (m : Nat) (v : Int) : (numsD n f).set m (.int .i64 v) = numsD n (upd f m v) := by
  refine List.ext_getElem? fun j => ?_
  by_cases e : m = j
  · subst e
    by_cases hm : m < n
    · rw [numsD_get _ hm, upd_same]; simp [numsD_len, hm]
    · rw [List.getElem?_eq_none (by simp [numsD_len]; omega), List.getElem?_eq_none (by simp [numsD_len]; omega)]
  · rw [List.getElem?_set_ne e]
    simp only [numsD, List.getElem?_map]
    cases hj : (List.range n)[j]? with
    | none => rfl
    | some x =>
      have : x = j := by
        rw [List.getElem?_eq_some_iff] at hj
        obtain ⟨h, e⟩ := hj
        simpa using e.symm
      subst this
      simp [upd_ne _ _ (Ne.symm e)]
theorem chunk_nums (n : Nat) (f : Nat → Int) : chunk 1 n (numsD n f) = (List.range n).map (fun k => iD (f k)) := by
  refine List.ext_getElem? fun i => ?_
  by_cases h : i < n
  · rw [chunk_get 1 n _ i h, Nat.mul_one]
    have hlt : i < (numsD n f).length := by rw [numsD_len]; exact h
    rw [List.drop_eq_getElem_cons hlt]
    have e : (numsD n f)[i]? = some (numsD n f)[i] := List.getElem?_eq_getElem hlt
    rw [numsD_get f h] at e
    rw [← Option.some.inj e]
    simp [h, iD]
  · rw [List.getElem?_eq_none (by rw [chunk_length]; omega), List.getElem?_eq_none (by simp; omega)]
def numsC (n : Nat) (f : Nat → Int) : List C := (numsD n f).map .d
theorem numsC_low (m n : Nat) (f : Nat → Int) : C.lowL m (numsC n f) = true := lowL_d _ _
theorem numsC_set (n : Nat) (f : Nat → Int) (m : Nat) (v : Int) : (numsC n f).set m (.d (.int .i64 v)) = numsC n (upd f m v) := by
  rw [numsC, numsC, ← List.map_set, numsD_set]
theorem zc_nums (n : Nat) : zc [C.d (.int .i64 0)] n = numsC n (fun _ => 0) := by
  rw [zc_one]
  refine List.ext_getElem? fun j => ?_
  by_cases h : j < n
  · simp [numsC, numsD, h, List.getElem?_replicate]
  · rw [List.getElem?_eq_none (by simp; omega), List.getElem?_eq_none (by simp [numsC, numsD]; omega)]
theorem numsC_get {n : Nat} (f : Nat → Int) {j : Nat} (h : j < n) : (numsC n f)[j]? = some (.d (.int .i64 (f j))) := by rw [numsC, List.getElem?_map, numsD_get _ h]; rfl
theorem numsC_len (n : Nat) (f : Nat → Int) : (numsC n f).length = n := by simp [numsC, numsD]

def rg0 : Rg := ⟨0, 0⟩
def gI (l : List Int) (b : Nat) : Int := l.getD b 0
theorem gI_get {l : List Int} {b : Nat} {x : Int} (h : l[b]? = some x) : gI l b = x := by simp [gI, List.getD, h]
theorem gI_lt {l : List Int} {b : Nat} (h : b < l.length) : l[b]? = some (gI l b) := by obtain ⟨x, hx⟩ := get_of_lt h; rw [gI_get hx, hx]
def Cs.l (c : Cs) (b : Nat) : Rg := c.lamp.getD b rg0
def Cs.e (c : Cs) (i b : Nat) : Rg := (c.eye.getD i []).getD b rg0
def Tr.l (x : Tr) (b : Nat) : Int := gI x.lamp b
def Tr.e (x : Tr) (i b : Nat) : Int := gI (x.eye.getD i []) b
theorem getD_of {α : Type} {l : List α} {b : Nat} {x d : α} (h : l[b]? = some x) : l.getD b d = x := by simp [List.getD, h]
theorem Cs.l_lt {c : Cs} {b : Nat} (h : b < c.lamp.length) : c.lamp[b]? = some (c.l b) := by obtain ⟨x, hx⟩ := get_of_lt h; rw [Cs.l, getD_of hx, hx]
theorem Cs.e_at {c : Cs} {i b : Nat} {row : List Rg} (h : c.eye[i]? = some row) (hb : b < row.length) : row[b]? = some (c.e i b) := by
  obtain ⟨x, hx⟩ := get_of_lt hb; rw [Cs.e, getD_of h, getD_of hx, hx]
theorem Tr.l_lt {c : Tr} {b : Nat} (h : b < c.lamp.length) : c.lamp[b]? = some (c.l b) := gI_lt h
theorem Tr.e_at {c : Tr} {i b : Nat} {row : List Int} (h : c.eye[i]? = some row) (hb : b < row.length) : row[b]? = some (c.e i b) := by
  rw [Tr.e, getD_of h]; exact gI_lt hb
theorem OkC.row {c : Cs} (h : OkC c) {i : Nat} (hi : i < 3) : ∃ row, c.eye[i]? = some row ∧ row.length = c.lamp.length := by
  obtain ⟨x, hx⟩ := get_of_lt (show i < c.eye.length by rw [h.e3]; exact hi)
  exact ⟨x, hx, h.er x (List.mem_of_getElem? hx)⟩
theorem rgOk_iff (t : Int) (r : Rg) : rgOk t r = true ↔ 0 ≤ r.lo ∧ r.lo ≤ r.hi ∧ r.hi ≤ t := by simp [rgOk]
theorem OkC.bl {c : Cs} (h : OkC c) (b : Nat) : 0 ≤ (c.l b).lo ∧ (c.l b).lo ≤ (c.l b).hi ∧ (c.l b).hi ≤ 100 := by
  by_cases hb : b < c.lamp.length
  · exact (rgOk_iff _ _).1 (h.lr _ (List.mem_of_getElem? (Cs.l_lt hb)))
  · have e : c.l b = rg0 := by rw [Cs.l, List.getD, List.getElem?_eq_none (by omega)]; rfl
    rw [e]; simp [rg0]
theorem OkC.be {c : Cs} (h : OkC c) (i b : Nat) : 0 ≤ (c.e i b).lo ∧ (c.e i b).lo ≤ (c.e i b).hi ∧ (c.e i b).hi ≤ 100 := by
  have e0 : (0 : Int) ≤ rg0.lo ∧ rg0.lo ≤ rg0.hi ∧ rg0.hi ≤ 100 := by simp [rg0]
  by_cases hi : i < 3
  · obtain ⟨row, hr, hl⟩ := h.row hi
    by_cases hb : b < c.lamp.length
    · exact (rgOk_iff _ _).1 (h.rr row (List.mem_of_getElem? hr) _ (List.mem_of_getElem? (Cs.e_at hr (by omega))))
    · have e : c.e i b = rg0 := by rw [Cs.e, getD_of hr, List.getD, List.getElem?_eq_none (show row.length ≤ b by omega)]; rfl
      rw [e]; exact e0
  · have e : c.e i b = rg0 := by rw [Cs.e, show c.eye.getD i [] = [] by rw [List.getD, List.getElem?_eq_none (by rw [h.e3]; omega)]; rfl]; rfl
    rw [e]; exact e0

/-- The errors of a truth. -/
def Rg.has (r : Rg) (v : Int) : Bool := decide (r.lo ≤ v ∧ v ≤ r.hi)
theorem Rg.has_iff (r : Rg) (v : Int) : r.has v = true ↔ r.lo ≤ v ∧ v ≤ r.hi := by simp [Rg.has]
def okLenT (c : Cs) (x : Tr) : Bool := decide (x.lamp.length = c.lamp.length) && (decide (x.eye.length = 3) && x.eye.all (fun r => decide (r.length = c.lamp.length)))
def bandOk (c : Cs) (x : Tr) (b : Nat) : Bool := (c.l b).has (x.l b) && (List.range 3).all (fun i => (c.e i b).has (x.e i b))
def inT (c : Cs) (x : Tr) : Bool := (List.range c.lamp.length).all (bandOk c x)
def okTr (c : Cs) (x : Tr) : Int := if okLenT c x then (if inT c x then 0 else 3) else 15
theorem okLenT_iff (c : Cs) (x : Tr) : okLenT c x = true ↔ x.lamp.length = c.lamp.length ∧ x.eye.length = 3 ∧ ∀ r ∈ x.eye, r.length = c.lamp.length := by
  simp [okLenT]
theorem bandOk_iff (c : Cs) (x : Tr) (b : Nat) : bandOk c x b = true ↔ (c.l b).has (x.l b) = true ∧ ∀ i, i < 3 → (c.e i b).has (x.e i b) = true := by
  simp [bandOk]
theorem inT_iff (c : Cs) (x : Tr) : inT c x = true ↔ ∀ b, b < c.lamp.length → bandOk c x b = true := by
  simp [inT]
structure OkT (c : Cs) (x : Tr) : Prop where
  ln : x.lamp.length = c.lamp.length
  e3 : x.eye.length = 3
  er : ∀ r ∈ x.eye, r.length = c.lamp.length
  bl : ∀ b, b < c.lamp.length → (c.l b).lo ≤ x.l b ∧ x.l b ≤ (c.l b).hi
  be : ∀ i b, i < 3 → b < c.lamp.length → (c.e i b).lo ≤ x.e i b ∧ x.e i b ≤ (c.e i b).hi
theorem okTr_iff (c : Cs) (x : Tr) : okTr c x = 0 ↔ OkT c x := by
  unfold okTr
  constructor
  · intro h
    by_cases h1 : okLenT c x = true
    · rw [if_pos h1] at h
      by_cases h2 : inT c x = true
      · obtain ⟨a1, a2, a3⟩ := (okLenT_iff c x).1 h1
        rw [inT_iff] at h2
        exact ⟨a1, a2, a3, fun b hb => (Rg.has_iff _ _).1 ((bandOk_iff c x b).1 (h2 b hb)).1, fun i b hi hb => (Rg.has_iff _ _).1 (((bandOk_iff c x b).1 (h2 b hb)).2 i hi)⟩
      · rw [if_neg h2] at h; cases h
    · rw [if_neg h1] at h; cases h
  · intro h
    rw [if_pos ((okLenT_iff c x).2 ⟨h.ln, h.e3, h.er⟩), if_pos ((inT_iff c x).2 fun b hb => (bandOk_iff c x b).2 ⟨(Rg.has_iff _ _).2 (h.bl b hb), fun i hi => (Rg.has_iff _ _).2 (h.be i b hi hb)⟩)]
theorem okTr_15 {c : Cs} {x : Tr} (h : okLenT c x = false) : okTr c x = 15 := by simp only [okTr, h, Bool.false_eq_true, if_false]
theorem okTr_r {c : Cs} {x : Tr} (h : okLenT c x = true) : okTr c x = if inT c x then 0 else 3 := by simp only [okTr, if_pos h]
theorem okTr_3 {c : Cs} {x : Tr} {b : Nat} (h : okLenT c x = true) (hb : b < c.lamp.length) (h2 : bandOk c x b = false) : okTr c x = 3 := by
  rw [okTr_r h, if_neg]; rw [inT_iff]; intro h3; rw [h3 b hb] at h2; cases h2
theorem band_l {c : Cs} {x : Tr} {b : Nat} (h : (c.l b).has (x.l b) = false) : bandOk c x b = false := by rw [← Bool.not_eq_true, bandOk_iff]; rintro ⟨h2, _⟩; rw [h] at h2; cases h2
theorem band_e {c : Cs} {x : Tr} {i b : Nat} (hi : i < 3) (h : (c.e i b).has (x.e i b) = false) : bandOk c x b = false := by rw [← Bool.not_eq_true, bandOk_iff]; rintro ⟨_, h2⟩; rw [h2 i hi] at h; cases h
theorem Tr.row {c : Cs} {x : Tr} (h : okLenT c x = true) {i : Nat} (hi : i < 3) : ∃ row, x.eye[i]? = some row ∧ row.length = c.lamp.length := by
  obtain ⟨_, a2, a3⟩ := (okLenT_iff c x).1 h
  obtain ⟨y, hy⟩ := get_of_lt (show i < x.eye.length by rw [a2]; exact hi)
  exact ⟨y, hy, a3 y (List.mem_of_getElem? hy)⟩
theorem inR_has (r : Rg) (v : Int) : inR r.lo r.hi [v] = r.has v := by rw [inR1]; rfl

set_option maxHeartbeats 4000000 in
theorem truth52 (c : Cs) (x : Tr) (hc : OkC c) : Pure Try.prog 52 [csV c, trV x] (I (okTr c x)) := by
  refine pure_wkE (bad := []) (kp := kp52) (X := tx) (nt := 89) (rs := [.tmp 4]) Try.func52 rfl rfl rfl rfl mo (by kernel_rfl) rfl rfl (fun hf => ?_)
  have hfx := fit_tr (hf (trV x) (by simp))
  have hn8 := hc.n8
  have he3 := hc.e3
  by_cases h1 : x.lamp.length = c.lamp.length
  case neg =>
    have h1' : ¬ (x.lamp.length : Int) = c.lamp.length := by omega
    have e := okTr_15 (c := c) (x := x) (by simp [okLenT, h1])
    simp (maxSteps := 2000000) only [go_sem, reduceIte, Nat.reduceEqDiff, Nat.reduceAdd, Nat.reduceBEq, lk52, lk30, csV, csC, trV, trC, h1', e]
  have h1' : (x.lamp.length : Int) = c.lamp.length := by omega
  by_cases h3 : x.eye.length = 3
  case neg =>
    have h3' : ¬ (x.eye.length : Int) = 3 := by omega
    have e := okTr_15 (c := c) (x := x) (by simp [okLenT, h3])
    simp (maxSteps := 2000000) only [go_sem, reduceIte, Nat.reduceEqDiff, Nat.reduceAdd, Nat.reduceLeDiff, Nat.reduceBEq, lk52, lk30, csV, csC, trV, trC, h1', h3', e]
  have h3' : (x.eye.length : Int) = 3 := by omega
  simp (maxSteps := 2000000) only [go_sem, reduceIte, Nat.reduceEqDiff, Nat.reduceAdd, Nat.reduceLeDiff, Nat.reduceBEq, lk52, lk30, csV, csC, trV, trC, h1', h3']
  refine aops_at (has71 x.eye 79 [.ptr 2 0] (fun r => !decide ((r.length : Int) = c.lamp.length)) [.cells (csC c), .cells (trC x), .cells [.d (.int .i64 c.lamp.length)]] rfl rfl (fun y _ => len79 c.lamp.length y _ 2 rfl rfl)) rfl rfl (by first | exact wk_refls _ | (repeat constructor)) ?_
  have eany : x.eye.any (fun r => !decide ((r.length : Int) = c.lamp.length)) = !okLenT c x := by
    rw [Bool.eq_iff_iff]; simp [okLenT, h3, h1]; constructor <;> (rintro ⟨x, hx, h⟩; exact ⟨x, hx, by omega⟩)
  rw [eany]
  cases hl : okLenT c x with
  | false =>
    have e := okTr_15 hl
    simp (maxSteps := 2000000) only [go_sem, reduceIte, Nat.reduceEqDiff, Nat.reduceAdd, lk52, lk30, csC, trC, e]
  | true =>
  simp (maxSteps := 2000000) only [go_sem, reduceIte, Nat.reduceEqDiff, Nat.reduceAdd, Nat.reduceBEq, lk52, lk30, csC, trC]
  refine goE_loop (bad := []) (kp := kp52) (fun b : Nat => { slots := [(2, .c (.ptr 0 0)), (3, .c (.ptr 1 0)), (33, rgs c.lamp), (34, I c.lamp.length), (35, I b)], heap := [.cells (csC c), .cells (trC x)], marks := [] }) (fun b => b ≤ c.lamp.length ∧ ∀ j, j < b → bandOk c x j = true) (fun b => c.lamp.length - b) 0 mo (by kernel_rfl) ?_ ⟨Nat.zero_le _, by intro j h; omega⟩ ?_
  · refine ent_weaken [.cells [.d (.int .i64 c.lamp.length)]] rfl rfl (Nat.zero_le _) rfl rfl ?_
    simp (maxSteps := 2000000) only [go_sem, reduceIte, Nat.reduceEqDiff, Nat.reduceAdd, Nat.reduceLT, lk52, lk30, csC, trC, rgs]
    all_goals first | exact .refl _ | exact ⟨.refl _, .refl _⟩ | exact ⟨.refl _, .refl _, .refl _⟩ | exact ⟨.refl _, _, rfl⟩ | exact ⟨_, rfl⟩ | exact ⟨.refl _, [], by simp⟩ | exact ⟨[], by simp⟩
  rintro b ⟨hb, hall⟩
  simp (maxSteps := 2000000) only [go_sem, reduceIte, Nat.reduceEqDiff, Nat.reduceAdd, lk52, lk30, csC, trC, rgs]
  by_cases hlt : b < c.lamp.length
  · have hlt' : (b : Int) < c.lamp.length := by omega
    have hy := Cs.l_lt hlt
    have hx := Tr.l_lt (c := x) (b := b) (by omega)
    simp (maxSteps := 2000000) only [go_sem, reduceIte, Nat.reduceEqDiff, Nat.reduceAdd, Nat.reduceLT, Nat.reduceLeDiff, Nat.reduceBEq, Nat.reduceMul, lk52, lk30, hlt', hy, hx, rgD, iD, nn, h1']
    refine dops_pure' (within73 (c.l b).lo (c.l b).hi [x.l b]) rfl rfl (by first | exact wk_refls _ | (repeat constructor)) (by kernel_rfl) ?_
    rw [inR_has]
    simp (maxSteps := 2000000) only [go_sem, reduceIte, Nat.reduceEqDiff, Nat.reduceAdd, lk52, lk30]
    cases hh : (c.l b).has (x.l b) with
    | false =>
      have e := okTr_3 hl hlt (band_l hh)
      simp (maxSteps := 2000000) only [go_sem, reduceIte, Nat.reduceEqDiff, Nat.reduceAdd, lk52, lk30, e]
    | true =>
    simp (maxSteps := 2000000) only [go_sem, reduceIte, Nat.reduceEqDiff, Nat.reduceAdd, Nat.reduceLeDiff, Nat.reduceBEq, lk52, lk30, csC, trC, h3']
    refine goE_loop (bad := []) (kp := kp52) (fun i : Nat => { slots := [(2, .c (.ptr 0 0)), (3, .c (.ptr 1 0)), (6, I b), (33, rgs c.lamp), (34, I c.lamp.length), (35, I b), (53, intss x.eye), (54, I 3), (55, I i)], heap := [.cells (csC c), .cells (trC x)], marks := [] }) (fun i => i ≤ 3 ∧ ∀ j, j < i → (c.e j b).has (x.e j b) = true) (fun i => 3 - i) 0 mo (by kernel_rfl) ?_ ⟨Nat.zero_le _, by intro j h; omega⟩ ?_
    · refine ent_weaken [.cells (rgC (c.l b))] rfl rfl (Nat.zero_le _) rfl rfl ?_
      simp (maxSteps := 2000000) only [go_sem, reduceIte, Nat.reduceEqDiff, Nat.reduceAdd, Nat.reduceLT, lk52, lk30, csC, trC, rgs, intss]
      all_goals first | exact .refl _ | exact ⟨.refl _, .refl _⟩ | exact ⟨.refl _, .refl _, .refl _⟩ | exact ⟨.refl _, _, rfl⟩ | exact ⟨_, rfl⟩ | exact ⟨.refl _, [], by simp⟩ | exact ⟨[], by simp⟩
    rintro i ⟨hi, hall2⟩
    simp (maxSteps := 2000000) only [go_sem, reduceIte, Nat.reduceEqDiff, Nat.reduceAdd, lk52, lk30, csC, trC, rgs, intss]
    by_cases hlt2 : i < 3
    · have hlt2' : (i : Int) < 3 := by omega
      obtain ⟨row, hrow, hrl⟩ := hc.row hlt2
      obtain ⟨rox, hrox, hrxl⟩ := Tr.row hl hlt2
      have g1 := Cs.e_at hrow (b := b) (by omega)
      have g2 := Tr.e_at hrox (b := b) (by omega)
      have k1 : (i : Int) < c.eye.length := by omega
      have k2 : (b : Int) < row.length := by omega
      have k3 : (b : Int) < rox.length := by omega
      simp (maxSteps := 2000000) only [go_sem, reduceIte, Nat.reduceEqDiff, Nat.reduceAdd, Nat.reduceLT, Nat.reduceLeDiff, Nat.reduceBEq, Nat.reduceMul, lk52, lk30, hlt2', hrow, hrox, g1, g2, rgD, iD, rowR, rowI, nn, h3', k1, k2, k3]
      refine dops_pure' (within73 (c.e i b).lo (c.e i b).hi [x.e i b]) rfl rfl (by first | exact wk_refls _ | (repeat constructor)) (by kernel_rfl) ?_
      rw [inR_has]
      simp (maxSteps := 2000000) only [go_sem, reduceIte, Nat.reduceEqDiff, Nat.reduceAdd, lk52, lk30]
      cases hh2 : (c.e i b).has (x.e i b) with
      | false =>
        have e := okTr_3 hl hlt (band_e hlt2 hh2)
        simp (maxSteps := 2000000) only [go_sem, reduceIte, Nat.reduceEqDiff, Nat.reduceAdd, lk52, lk30, e]
      | true =>
      have w : wr .i64 ((i : Int) + 1) = ((i + 1 : Nat) : Int) := wr_succ hlt2 (by omega)
      simp (maxSteps := 2000000) only [go_sem, reduceIte, Nat.reduceEqDiff, Nat.reduceAdd, lk52, lk30, w]
      refine ⟨i + 1, ⟨hlt2, fun j hj => ?_⟩, by omega, ?_⟩
      · rcases Nat.lt_succ_iff_lt_or_eq.1 hj with h | h
        · exact hall2 j h
        · rw [h]; exact hh2
      refine ent_weaken [] rfl rfl (Nat.zero_le _) rfl rfl ?_
      simp (maxSteps := 2000000) only [go_sem, reduceIte, Nat.reduceEqDiff, Nat.reduceAdd, Nat.reduceLT, lk52, lk30, csC, trC]
      all_goals first | exact .refl _ | exact ⟨.refl _, .refl _⟩ | exact ⟨.refl _, .refl _, .refl _⟩ | exact ⟨.refl _, _, rfl⟩ | exact ⟨_, rfl⟩ | exact ⟨.refl _, [], by simp⟩ | exact ⟨[], by simp⟩
    · have hlt2' : ¬ (i : Int) < 3 := by omega
      simp (maxSteps := 2000000) only [go_sem, reduceIte, Nat.reduceEqDiff, Nat.reduceAdd, lk52, lk30, hlt2', wr_succ hlt (show c.lamp.length ≤ 140737488355328 by omega)]
      refine ⟨b + 1, ⟨hlt, fun j hj => ?_⟩, by omega, ?_⟩
      · rcases Nat.lt_succ_iff_lt_or_eq.1 hj with h | h
        · exact hall j h
        · rw [h]; exact (bandOk_iff c x b).2 ⟨hh, fun j hj => hall2 j (by omega)⟩
      refine ent_weaken [] rfl rfl (Nat.zero_le _) rfl rfl ?_
      simp (maxSteps := 2000000) only [go_sem, reduceIte, Nat.reduceEqDiff, Nat.reduceAdd, Nat.reduceLT, lk52, lk30, csC, trC]
      all_goals first | exact .refl _ | exact ⟨.refl _, .refl _⟩ | exact ⟨.refl _, .refl _, .refl _⟩ | exact ⟨.refl _, _, rfl⟩ | exact ⟨_, rfl⟩ | exact ⟨.refl _, [], by simp⟩ | exact ⟨[], by simp⟩
  · have hlt' : ¬ (b : Int) < c.lamp.length := by omega
    have e : okTr c x = 0 := by rw [okTr_r hl, (inT_iff c x).2 (fun j hj => hall j (by omega))]; rfl
    simp (maxSteps := 2000000) only [go_sem, reduceIte, Nat.reduceEqDiff, Nat.reduceAdd, lk52, lk30, hlt', e]

theorem okLenT_bad {c : Cs} {x : Tr} {i : Nat} {row : List Int} (h : x.eye[i]? = some row) (hr : ¬ row.length = c.lamp.length) : okLenT c x = false := by
  rw [← Bool.not_eq_true, okLenT_iff]; rintro ⟨_, _, h2⟩; exact hr (h2 row (List.mem_of_getElem? h))
set_option maxHeartbeats 4000000 in
theorem checkTrue30 (c : Cs) (x : Tr) (hc : OkC c) : Pure Try.prog 30 [csV c, trV x] (I (okTr c x)) := by
  refine pure_wkE (bad := []) (kp := kp30) (X := tx) (nt := 108) (rs := [.tmp 4]) Try.func30 rfl rfl rfl rfl mo (by kernel_rfl) rfl rfl (fun hf => ?_)
  have hfx := fit_tr (hf (trV x) (by simp))
  have hn8 := hc.n8
  have he3 := hc.e3
  by_cases h1 : x.lamp.length = c.lamp.length
  case neg =>
    have h1' : ¬ (x.lamp.length : Int) = c.lamp.length := by omega
    have e := okTr_15 (c := c) (x := x) (by simp [okLenT, h1])
    simp (maxSteps := 2000000) only [go_sem, reduceIte, Nat.reduceEqDiff, Nat.reduceAdd, Nat.reduceBEq, lk52, lk30, csV, csC, trV, trC, h1', e]
  have h1' : (x.lamp.length : Int) = c.lamp.length := by omega
  by_cases h3 : x.eye.length = 3
  case neg =>
    have h3' : ¬ (x.eye.length : Int) = 3 := by omega
    have e := okTr_15 (c := c) (x := x) (by simp [okLenT, h3])
    simp (maxSteps := 2000000) only [go_sem, reduceIte, Nat.reduceEqDiff, Nat.reduceAdd, Nat.reduceLeDiff, Nat.reduceBEq, lk52, lk30, csV, csC, trV, trC, h1', h3', e]
  have h3' : (x.eye.length : Int) = 3 := by omega
  have he3' : (c.eye.length : Int) = 3 := by omega
  simp (maxSteps := 2000000) only [go_sem, reduceIte, Nat.reduceEqDiff, Nat.reduceAdd, Nat.reduceLeDiff, Nat.reduceBEq, lk52, lk30, csV, csC, trV, trC, h1', h3']
  refine goE_loop (bad := []) (kp := kp30) (fun i : Nat => { slots := [(2, .c (.ptr 0 0)), (3, .c (.ptr 1 0)), (5, I c.lamp.length), (6, I i)], heap := [.cells (csC c), .cells (trC x)], marks := [] }) (fun i => i ≤ 3 ∧ ∀ j r, j < i → x.eye[j]? = some r → r.length = c.lamp.length) (fun i => 3 - i) 0 mo (by kernel_rfl) ?_ ⟨Nat.zero_le _, by intro j r h; omega⟩ ?_
  · refine ent_weaken [] rfl rfl (Nat.zero_le _) rfl rfl ?_
    simp (maxSteps := 2000000) only [go_sem, reduceIte, Nat.reduceEqDiff, Nat.reduceAdd, Nat.reduceLT, lk52, lk30, csC, trC]
    all_goals first | exact .refl _ | exact ⟨.refl _, .refl _⟩ | exact ⟨.refl _, .refl _, .refl _⟩ | exact ⟨.refl _, _, rfl⟩ | exact ⟨_, rfl⟩ | exact ⟨.refl _, [], by simp⟩ | exact ⟨[], by simp⟩
  rintro i ⟨hi, hall⟩
  simp (maxSteps := 2000000) only [go_sem, reduceIte, Nat.reduceEqDiff, Nat.reduceAdd, lk52, lk30, csC, trC]
  by_cases hlt : i < 3
  · have hlt' : (i : Int) < 3 := by omega
    obtain ⟨r, hr⟩ := get_of_lt (show i < x.eye.length by omega)
    have k1 : (i : Int) < x.eye.length := by omega
    simp (maxSteps := 2000000) only [go_sem, reduceIte, Nat.reduceEqDiff, Nat.reduceAdd, Nat.reduceLeDiff, Nat.reduceBEq, lk52, lk30, hr, rowI, nn, k1, hlt', h3']
    by_cases hxl : r.length = c.lamp.length
    · have hxl' : (r.length : Int) = c.lamp.length := by omega
      have m1 : 3 - (i + 1) < 3 - i := by omega
      have w : wr .i64 ((i : Int) + 1) = ((i + 1 : Nat) : Int) := wr_succ hlt (by omega)
      simp (maxSteps := 2000000) only [go_sem, reduceIte, Nat.reduceEqDiff, Nat.reduceAdd, lk52, lk30, hxl', w]
      refine ⟨i + 1, ⟨hlt, upto_succ hall hr hxl⟩, m1, ?_⟩
      refine ent_weaken [] rfl rfl (Nat.zero_le _) rfl rfl ?_
      simp (maxSteps := 2000000) only [go_sem, reduceIte, Nat.reduceEqDiff, Nat.reduceAdd, Nat.reduceLT, lk52, lk30]
    · have hxl' : ¬ (r.length : Int) = c.lamp.length := by omega
      have e := okTr_15 (okLenT_bad hr hxl)
      simp (maxSteps := 2000000) only [go_sem, reduceIte, Nat.reduceEqDiff, Nat.reduceAdd, lk52, lk30, hxl', e]
  have hlt' : ¬ (i : Int) < 3 := by omega
  have hl : okLenT c x = true := (okLenT_iff c x).2 ⟨h1, h3, fun r hr => by
    obtain ⟨j, hj⟩ := List.getElem?_of_mem hr
    exact hall j r (by have := (List.getElem?_eq_some_iff.1 hj).1; omega) hj⟩
  clear hall
  simp (maxSteps := 2000000) only [go_sem, reduceIte, Nat.reduceEqDiff, Nat.reduceAdd, lk52, lk30, hlt']
  refine goE_loop (bad := []) (kp := kp30) (fun b : Nat => { slots := [(2, .c (.ptr 0 0)), (3, .c (.ptr 1 0)), (5, I c.lamp.length), (7, I b)], heap := [.cells (csC c), .cells (trC x)], marks := [] }) (fun b => b ≤ c.lamp.length ∧ ∀ j, j < b → bandOk c x j = true) (fun b => c.lamp.length - b) 0 mo (by kernel_rfl) ?_ ⟨Nat.zero_le _, by intro j h; omega⟩ ?_
  · refine ent_weaken [] rfl rfl (Nat.zero_le _) rfl rfl ?_
    simp (maxSteps := 2000000) only [go_sem, reduceIte, Nat.reduceEqDiff, Nat.reduceAdd, Nat.reduceLT, lk52, lk30, csC, trC]
    all_goals first | exact .refl _ | exact ⟨.refl _, .refl _⟩ | exact ⟨.refl _, .refl _, .refl _⟩ | exact ⟨.refl _, _, rfl⟩ | exact ⟨_, rfl⟩ | exact ⟨.refl _, [], by simp⟩ | exact ⟨[], by simp⟩
  rintro b ⟨hb, hall⟩
  simp (maxSteps := 2000000) only [go_sem, reduceIte, Nat.reduceEqDiff, Nat.reduceAdd, lk52, lk30, csC, trC]
  by_cases hlt : b < c.lamp.length
  case neg =>
    have hlt' : ¬ (b : Int) < c.lamp.length := by omega
    have e : okTr c x = 0 := by rw [okTr_r hl, (inT_iff c x).2 (fun j hj => hall j (by omega))]; rfl
    simp (maxSteps := 2000000) only [go_sem, reduceIte, Nat.reduceEqDiff, Nat.reduceAdd, lk52, lk30, hlt', e]
  have hlb' : (b : Int) < c.lamp.length := by omega
  have hy := Cs.l_lt hlt
  have hx := Tr.l_lt (c := x) (b := b) (by omega)
  by_cases q1 : x.l b < (c.l b).lo
  · have e := okTr_3 hl hlt (band_l (by rw [← Bool.not_eq_true, Rg.has_iff]; omega))
    simp (maxSteps := 2000000) only [go_sem, reduceIte, Nat.reduceEqDiff, Nat.reduceAdd, Nat.reduceLeDiff, Nat.reduceBEq, lk52, lk30, hlb', hy, hx, rgD, iD, nn, h1', q1, e]
  by_cases q2 : (c.l b).hi < x.l b
  · have e := okTr_3 hl hlt (band_l (by rw [← Bool.not_eq_true, Rg.has_iff]; omega))
    simp (maxSteps := 2000000) only [go_sem, reduceIte, Nat.reduceEqDiff, Nat.reduceAdd, Nat.reduceLeDiff, Nat.reduceBEq, lk52, lk30, hlb', hy, hx, rgD, iD, nn, h1', q1, q2, e]
  have hh : (c.l b).has (x.l b) = true := (Rg.has_iff _ _).2 (by omega)
  simp (maxSteps := 2000000) only [go_sem, reduceIte, Nat.reduceEqDiff, Nat.reduceAdd, Nat.reduceLeDiff, Nat.reduceBEq, lk52, lk30, hlb', hy, hx, rgD, iD, nn, h1', q1, q2]
  refine goE_loop (bad := []) (kp := kp30) (fun i : Nat => { slots := [(2, .c (.ptr 0 0)), (3, .c (.ptr 1 0)), (5, I c.lamp.length), (7, I b), (8, I i)], heap := [.cells (csC c), .cells (trC x)], marks := [] }) (fun i => i ≤ 3 ∧ ∀ j, j < i → (c.e j b).has (x.e j b) = true) (fun i => 3 - i) 0 mo (by kernel_rfl) ?_ ⟨Nat.zero_le _, by intro j h; omega⟩ ?_
  · refine ent_weaken [] rfl rfl (Nat.zero_le _) rfl rfl ?_
    simp (maxSteps := 2000000) only [go_sem, reduceIte, Nat.reduceEqDiff, Nat.reduceAdd, Nat.reduceLT, lk52, lk30, csC, trC]
    all_goals first | exact .refl _ | exact ⟨.refl _, .refl _⟩ | exact ⟨.refl _, .refl _, .refl _⟩ | exact ⟨.refl _, _, rfl⟩ | exact ⟨_, rfl⟩ | exact ⟨.refl _, [], by simp⟩ | exact ⟨[], by simp⟩
  rintro i ⟨hi, hall2⟩
  simp (maxSteps := 2000000) only [go_sem, reduceIte, Nat.reduceEqDiff, Nat.reduceAdd, lk52, lk30, csC, trC]
  by_cases hlt2 : i < 3
  · have hlt2' : (i : Int) < 3 := by omega
    obtain ⟨row, hrow, hrl⟩ := hc.row hlt2
    obtain ⟨rox, hrox, hrxl⟩ := Tr.row hl hlt2
    have g1 := Cs.e_at hrow (b := b) (by omega)
    have g2 := Tr.e_at hrox (b := b) (by omega)
    have k2 : (b : Int) < row.length := by omega
    have k3 : (b : Int) < rox.length := by omega
    by_cases q1 : x.e i b < (c.e i b).lo
    · have e := okTr_3 hl hlt (band_e hlt2 (by rw [← Bool.not_eq_true, Rg.has_iff]; omega))
      simp (maxSteps := 2000000) only [go_sem, reduceIte, Nat.reduceEqDiff, Nat.reduceAdd, Nat.reduceLeDiff, Nat.reduceBEq, lk52, lk30, hlt2', hrow, hrox, g1, g2, rgD, iD, rowR, rowI, nn, h3', he3', k2, k3, q1, e]
    by_cases q2 : (c.e i b).hi < x.e i b
    · have e := okTr_3 hl hlt (band_e hlt2 (by rw [← Bool.not_eq_true, Rg.has_iff]; omega))
      simp (maxSteps := 2000000) only [go_sem, reduceIte, Nat.reduceEqDiff, Nat.reduceAdd, Nat.reduceLeDiff, Nat.reduceBEq, lk52, lk30, hlt2', hrow, hrox, g1, g2, rgD, iD, rowR, rowI, nn, h3', he3', k2, k3, q1, q2, e]
    have hh2 : (c.e i b).has (x.e i b) = true := (Rg.has_iff _ _).2 (by omega)
    have m1 : 3 - (i + 1) < 3 - i := by omega
    have w : wr .i64 ((i : Int) + 1) = ((i + 1 : Nat) : Int) := wr_succ hlt2 (by omega)
    simp (maxSteps := 2000000) only [go_sem, reduceIte, Nat.reduceEqDiff, Nat.reduceAdd, Nat.reduceLeDiff, Nat.reduceBEq, lk52, lk30, hlt2', hrow, hrox, g1, g2, rgD, iD, rowR, rowI, nn, h3', he3', k2, k3, q1, q2, w]
    refine ⟨i + 1, ⟨hlt2, fun j hj => ?_⟩, m1, ?_⟩
    · rcases Nat.lt_succ_iff_lt_or_eq.1 hj with h | h
      · exact hall2 j h
      · rw [h]; exact hh2
    refine ent_weaken [] rfl rfl (Nat.zero_le _) rfl rfl ?_
    simp (maxSteps := 2000000) only [go_sem, reduceIte, Nat.reduceEqDiff, Nat.reduceAdd, Nat.reduceLT, lk52, lk30]
  · have hlt2' : ¬ (i : Int) < 3 := by omega
    simp (maxSteps := 2000000) only [go_sem, reduceIte, Nat.reduceEqDiff, Nat.reduceAdd, lk52, lk30, hlt2', wr_succ hlt (show c.lamp.length ≤ 140737488355328 by omega)]
    refine ⟨b + 1, ⟨hlt, fun j hj => ?_⟩, by omega, ?_⟩
    · rcases Nat.lt_succ_iff_lt_or_eq.1 hj with h | h
      · exact hall j h
      · rw [h]; exact (bandOk_iff c x b).2 ⟨hh, fun j hj => hall2 j (by omega)⟩
    refine ent_weaken [] rfl rfl (Nat.zero_le _) rfl rfl ?_
    simp (maxSteps := 2000000) only [go_sem, reduceIte, Nat.reduceEqDiff, Nat.reduceAdd, Nat.reduceLT, lk52, lk30]
end Go.Proofs.Ytjkpfojkkfopmaa
