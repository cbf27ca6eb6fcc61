/- Zones: draw. -/
import Derived.Test.YtliamojogmlgjaaZ10
set_option linter.unusedSimpArgs false
set_option linter.unusedVariables false
set_option maxRecDepth 100000
namespace Go.Proofs.Ytliamojogmlgjaa
open Go Go.Abs Go.Proofs

theorem tabA_lo {l : La} {F G d : Nat → Int} {i : Nat} {v : Int} (h : i < 11) : (tabC l (ilv F G) d).set (4 + i * 2) (.d (.int .i64 v)) = tabC l (ilv (upd F i v) G) d := by
  rw [tab_seta (by omega), Nat.mul_comm, ilv_updlo]
theorem tabA_hi {l : La} {F G d : Nat → Int} {i : Nat} {v : Int} (h : i < 11) : (tabC l (ilv F G) d).set (4 + i * 2 + 1) (.d (.int .i64 v)) = tabC l (ilv F (upd G i v)) d := by
  rw [Nat.add_assoc, tab_seta (by omega), Nat.mul_comm, ilv_updhi]
theorem tabA_glo {l : La} {F G d : Nat → Int} {i : Nat} (h : i < 11) : (tabC l (ilv F G) d)[4 + i * 2]? = some (.d (.int .i64 (F i))) := by
  rw [tab_a (by omega), Nat.mul_comm, ilv_lo]
theorem tabA_ghi {l : La} {F G d : Nat → Int} {i : Nat} (h : i < 11) : (tabC l (ilv F G) d)[4 + i * 2 + 1]? = some (.d (.int .i64 (G i))) := by
  rw [Nat.add_assoc, tab_a (by omega), Nat.mul_comm, ilv_hi]
theorem take2 {α : Type} {l : List α} {k : Nat} {x y : α} (hx : l[k]? = some x) (hy : l[k + 1]? = some y) : (l.drop k).take 2 = [x, y] := by
  have h1 := (List.getElem?_eq_some_iff.1 hx)
  have h2 := (List.getElem?_eq_some_iff.1 hy)
  obtain ⟨a1, a2⟩ := h1
  obtain ⟨b1, b2⟩ := h2
  rw [List.drop_eq_getElem_cons a1, List.drop_eq_getElem_cons b1, a2, b2]; rfl
theorem tabA_row {l : La} {F G d : Nat → Int} {i : Nat} (h : i < 11) : ((tabC l (ilv F G) d).drop (4 + i * 2)).take 2 = [.d (.int .i64 (F i)), .d (.int .i64 (G i))] := take2 (tabA_glo h) (tabA_ghi h)
theorem tabD_lo {l : La} {a F G : Nat → Int} {i : Nat} {v : Int} (h : i < 91) : (tabC l a (ilv F G)).set (26 + i * 2) (.d (.int .i64 v)) = tabC l a (ilv (upd F i v) G) := by
  rw [tab_setd (by omega), Nat.mul_comm, ilv_updlo]
theorem tabD_hi {l : La} {a F G : Nat → Int} {i : Nat} {v : Int} (h : i < 91) : (tabC l a (ilv F G)).set (26 + i * 2 + 1) (.d (.int .i64 v)) = tabC l a (ilv F (upd G i v)) := by
  rw [Nat.add_assoc, tab_setd (by omega), Nat.mul_comm, ilv_updhi]
theorem tabD_glo {l : La} {a F G : Nat → Int} {i : Nat} (h : i < 91) : (tabC l a (ilv F G))[26 + i * 2]? = some (.d (.int .i64 (F i))) := by
  rw [tab_d (by omega), Nat.mul_comm, ilv_lo]
theorem tabD_ghi {l : La} {a F G : Nat → Int} {i : Nat} (h : i < 91) : (tabC l a (ilv F G))[26 + i * 2 + 1]? = some (.d (.int .i64 (G i))) := by
  rw [Nat.add_assoc, tab_d (by omega), Nat.mul_comm, ilv_hi]
theorem tabD_row {l : La} {a F G : Nat → Int} {i : Nat} (h : i < 91) : ((tabC l a (ilv F G)).drop (26 + i * 2)).take 2 = [.d (.int .i64 (F i)), .d (.int .i64 (G i))] := take2 (tabD_glo h) (tabD_ghi h)
theorem tab_ang (l : La) (a d : Nat → Int) : ((tabC l a d).drop 4).take 22 = numsC 22 a := by
  rw [tabC, List.drop_append_of_le_length (by simp [laC])]
  rw [show (laC l).drop 4 = [] from rfl, List.nil_append, List.take_append_of_le_length (by rw [numsC_len]; exact Nat.le_refl _), List.take_of_length_le (by rw [numsC_len]; exact Nat.le_refl _)]
theorem eqCs_map (f g : Nat → Int) : ∀ l : List Nat, eqCs ((l.map fun j => D.int .i64 (f j)).map C.d) ((l.map fun j => D.int .i64 (g j)).map C.d) = some (l.all fun k => decide (f k = g k))
  | [] => rfl
  | a :: l => by
    have ih := eqCs_map f g l
    simp only [List.map_cons, eqCs, eqC, if_true, ih, List.all_cons]
theorem eqCs_nums (n : Nat) (f g : Nat → Int) : eqCs (numsC n f) (numsC n g) = some (eqN n f g) := by rw [numsC_d, numsC_d]; exact eqCs_map f g _
theorem take_full (n : Nat) (f : Nat → Int) : (numsC n f).take n = numsC n f := List.take_of_length_le (by rw [numsC_len]; exact Nat.le_refl _)
theorem tab_clear (l : La) (a d : Nat → Int) : setMany (tabC l a d) 26 (List.replicate 91 [C.d (.int .i64 0), C.d (.int .i64 0)]).flatten = tabC l a (fun _ => 0) := by
  have e : (List.replicate 91 [C.d (.int .i64 0), C.d (.int .i64 0)]).flatten = numsC 182 (fun _ => 0) := by kernel_rfl
  have t1 : (laC l ++ (numsC 22 a ++ numsC 182 d)).take 26 = laC l ++ numsC 22 a := by rw [← List.append_assoc]; exact List.take_left' (by simp [laC, numsC_len])
  rw [e, setMany_eq_spl _ _ _ (by rw [tab_len, numsC_len]; decide), spl, tabC, t1, List.drop_eq_nil_of_le (by simp [laC, numsC_len]), List.append_nil, List.append_assoc]; rfl
theorem set_full (n : Nat) (f g : Nat → Int) : setMany (numsC n f) 0 (numsC n g) = numsC n g := by
  rw [setMany_eq_spl _ _ _ (by simp [numsC_len]), spl]
  simp [numsC_len, List.drop_eq_nil_of_le]
def slD : List (Nat × V) := [(1, .c (.ptr 2 0)), (2, .c (.ptr 3 0)), (16, .c (.fn (.func 83) [.ptr 4 0]))]
def HD (l : La) (b d : Nat → Int) (A Bd : Code) (st : LoopState) (F G : Nat → Int) : List AB :=
  [.cells (laC l), .cells (tabC l (ilv F G) d), .cells [.ptr 1 0], .cells (numsC 22 b), .cells [.ptr 1 0], .df, .lp { state := st, pend := none, slots := slD, nt := 133, ps := #[17, 18], assign := A, body := Bd, D := 5 }]
theorem HD_low (l : La) (b d : Nat → Int) (A Bd : Code) (st : LoopState) (F G : Nat → Int) : (HD l b d A Bd st F G).all (AB.low 7) = true := by
  simp only [HD, List.all_cons, List.all_nil, AB.low, tab_low, numsC_low, laC_low, Bool.and_true, Bool.true_and]
  rfl
theorem HD_lowg (l : La) (b d : Nat → Int) (A Bd : Code) (st : LoopState) (F G : Nat → Int) (i : Nat) : (HD l b d A Bd st F G ++ [AB.cells (gapC l i)]).all (AB.low 8) = true := by
  simp only [HD, List.cons_append, List.nil_append, List.all_cons, List.all_nil, AB.low, tab_low, numsC_low, laC_low, gapC_low, Bool.and_true, Bool.true_and]
  rfl
def H3 (l : La) (a d : Nat → Int) : List AB := [.cells (laC l), .cells (tabC l a d), .cells [.ptr 1 0]]
theorem H3_low (l : La) (a d : Nat → Int) : (H3 l a d).all (AB.low 3) = true := by
  simp only [H3, List.all_cons, List.all_nil, AB.low, tab_low, laC_low, Bool.and_true, Bool.true_and]
  rfl
theorem H2_low (l : La) (a d : Nat → Int) : [AB.cells (laC l), .cells (tabC l a d)].all (AB.low 2) = true := by
  simp only [List.all_cons, List.all_nil, AB.low, tab_low, laC_low, Bool.and_true, Bool.true_and]
end Go.Proofs.Ytliamojogmlgjaa
