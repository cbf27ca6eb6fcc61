/- Zones: the program's table of a lamp; spans. -/
import Derived.Test.YtliamojogmlgjaaZ11d
import Derived.Test.YtliamojogmlgjaaZ9
set_option linter.unusedSimpArgs false
set_option linter.unusedVariables false
set_option maxRecDepth 100000
namespace Go.Proofs.Ytliamojogmlgjaa
open Go Go.Abs Go.Proofs
def kp73 : List (Nat × List Nat) := [(0, [1]), (1, [1, 3]), (2, [3]), (3, [3]), (4, [2])]
theorem lk73 : lookK kp73 0 = some [1] ∧ lookK kp73 1 = some [1, 3] ∧ lookK kp73 2 = some [3] ∧ lookK kp73 3 = some [3] ∧ lookK kp73 4 = some [2] := ⟨rfl, rfl, rfl, rfl, rfl⟩
def kp58 : List (Nat × List Nat) := [(0, [0, 2]), (1, [2])]
theorem lk58 : lookK kp58 0 = some [0, 2] ∧ lookK kp58 1 = some [2] := ⟨rfl, rfl⟩
def kp59 : List (Nat × List Nat) := [(0, [0, 1, 4]), (1, [4])]
theorem lk59 : lookK kp59 0 = some [0, 1, 4] ∧ lookK kp59 1 = some [4] := ⟨rfl, rfl⟩
def kp62 : List (Nat × List Nat) := [(0, [0, 1]), (1, [4])]
theorem lk62 : lookK kp62 0 = some [0, 1] ∧ lookK kp62 1 = some [4] := ⟨rfl, rfl⟩
def kp63 : List (Nat × List Nat) := [(0, [0, 1]), (1, [4])]
theorem lk63 : lookK kp63 0 = some [0, 1] ∧ lookK kp63 1 = some [4] := ⟨rfl, rfl⟩

def tabD (l : La) (a d : Nat → Int) : List D := [D.sl (l.an.map iD), D.sl (l.li.map rgD), D.sl (l.fa.map bD), D.sl (l.we.map iD)] ++ (numsD 22 a ++ numsD 182 d)
theorem tabC_d (l : La) (a d : Nat → Int) : tabC l a d = (tabD l a d).map C.d := by simp [tabC, tabD, laC, numsC_d]
/-- The table of a lamp. -/
def tbD (l : La) : List D := tabD l (ilv (aL l) (aH l)) (ilv (cut l.we.length (bl l)) (cut l.we.length (bh l)))
theorem tbD_len (l : La) : (tbD l).length = 208 := by simp [tbD, tabD, numsD]
theorem tbD_an (l : La) : (tbD l)[0]? = some (.sl (l.an.map iD)) := rfl
theorem tbD_li (l : La) : (tbD l)[1]? = some (.sl (l.li.map rgD)) := rfl
theorem tbD_fa (l : La) : (tbD l)[2]? = some (.sl (l.fa.map bD)) := rfl
theorem tbD_we (l : La) : (tbD l)[3]? = some (.sl (l.we.map iD)) := rfl
theorem tb_get {l : La} {k : Nat} {x : D} (h : (tabC l (ilv (aL l) (aH l)) (ilv (cut l.we.length (bl l)) (cut l.we.length (bh l))))[k]? = some (.d x)) : (tbD l)[k]? = some x := by
  rw [tabC_d, List.getElem?_map] at h
  unfold tbD
  cases e : (tabD l (ilv (aL l) (aH l)) (ilv (cut l.we.length (bl l)) (cut l.we.length (bh l))))[k]? with
  | none => rw [e] at h; cases h
  | some y => rw [e] at h; simp at h; rw [h]
theorem tbD_lo {l : La} {k : Nat} (h : k < l.we.length) (h2 : k < 91) : (tbD l)[26 + k * 2]? = some (.int .i64 (bl l k)) := by
  refine tb_get ?_
  rw [tabD_glo h2]; unfold cut; rw [if_pos h]
theorem tbD_hi {l : La} {k : Nat} (h : k < l.we.length) (h2 : k < 91) : (tbD l)[26 + k * 2 + 1]? = some (.int .i64 (bh l k)) := by
  refine tb_get ?_
  rw [tabD_ghi h2]; unfold cut; rw [if_pos h]
theorem tbD_row {l : La} {k : Nat} (h : k < l.we.length) (h2 : k < 91) : ((tbD l).drop (26 + k * 2)).take 2 = [.int .i64 (bl l k), .int .i64 (bh l k)] := take2 (tbD_lo h h2) (tbD_hi h h2)
def tbV (l : La) : V := .c (.dp (tbD l))
theorem tbd_cons {l : La} {k : Nat} (h : k < l.we.length) (h2 : k < 91) : ∃ rest, List.drop (k * 2) (List.drop 26 (tbD l)) = D.int .i64 (bl l k) :: D.int .i64 (bh l k) :: rest := by
  rw [List.drop_drop]
  obtain ⟨a1, a2⟩ := List.getElem?_eq_some_iff.1 (tbD_lo h h2)
  obtain ⟨b1, b2⟩ := List.getElem?_eq_some_iff.1 (tbD_hi h h2)
  exact ⟨_, by rw [List.drop_eq_getElem_cons a1, List.drop_eq_getElem_cons b1, a2, b2]⟩
theorem low62 (l : La) (ok : OkLa l) (k : Nat) (hk : k < l.we.length) : Pure Try.prog 62 [tbV l, I k] (I (bl l k)) := by
  refine pure_wkE (bad := []) (kp := kp62) (X := tx) (nt := 12) (rs := [.tmp 4]) Try.func62 rfl rfl rfl rfl mo (by kernel_rfl) rfl rfl (fun hf => ?_)
  have n91 := ok.n91.2
  have k91 : (k : Int) < 91 := by omega
  obtain ⟨rest, hr⟩ := tbd_cons hk (show k < 91 by omega)
  simp (maxSteps := 2000000) only [go_sem, reduceIte, Nat.reduceEqDiff, Nat.reduceAdd, Nat.reduceLeDiff, Nat.reduceBEq, List.replicate_succ, lk73, lk58, lk59, lk62, lk63, tbV, tbD_len, nn, k91, Int.toNat_natCast, hr, List.length_cons]
theorem high63 (l : La) (ok : OkLa l) (k : Nat) (hk : k < l.we.length) : Pure Try.prog 63 [tbV l, I k] (I (bh l k)) := by
  refine pure_wkE (bad := []) (kp := kp63) (X := tx) (nt := 12) (rs := [.tmp 4]) Try.func63 rfl rfl rfl rfl mo (by kernel_rfl) rfl rfl (fun hf => ?_)
  have n91 := ok.n91.2
  have k91 : (k : Int) < 91 := by omega
  obtain ⟨rest, hr⟩ := tbd_cons hk (show k < 91 by omega)
  simp (maxSteps := 2000000) only [go_sem, reduceIte, Nat.reduceEqDiff, Nat.reduceAdd, Nat.reduceLeDiff, Nat.reduceBEq, List.replicate_succ, lk73, lk58, lk59, lk62, lk63, tbV, tbD_len, nn, k91, Int.toNat_natCast, hr, List.length_cons]
theorem at59 (l : La) (ok : OkLa l) (k : Nat) (hk : k < l.we.length) : Pure Try.prog 59 [tbV l, I k] (rgV ⟨bl l k, bh l k⟩) := by
  refine pure_wkE (bad := []) (kp := kp59) (X := tx) (nt := 11) (rs := [.cell 4 40]) Try.func59 rfl rfl rfl rfl mo (by kernel_rfl) rfl rfl (fun hf => ?_)
  have n91 := ok.n91.2
  have k91 : (k : Int) < 91 := by omega
  obtain ⟨rest, hr⟩ := tbd_cons hk (show k < 91 by omega)
  simp (maxSteps := 2000000) only [go_sem, reduceIte, Nat.reduceEqDiff, Nat.reduceAdd, Nat.reduceLeDiff, Nat.reduceBEq, List.replicate_succ, lk73, lk58, lk59, lk62, lk63, tbV, tbD_len, nn, k91, Int.toNat_natCast, hr, List.length_cons, rgV, rgC]
theorem sumlo {l : La} (ok : OkLa l) (H : List AB) (hH : H.all (AB.low H.length) = true) : ACall Try.prog 46 [ints l.we, .c (.mv (.func 62) (.dp (tbD l)))] H (one (I (spLo l)) H) := by
  have n91 := ok.n91.2
  exact sum46m l.we 62 _ (bl l) H hH rfl (by omega) ok.wr (fun k hk => by have := bl_range ok hk; omega) (fun k hk => (low62 l ok k hk).at _)
theorem sumhi {l : La} (ok : OkLa l) (H : List AB) (hH : H.all (AB.low H.length) = true) : ACall Try.prog 46 [ints l.we, .c (.mv (.func 63) (.dp (tbD l)))] H (one (I (spHi l)) H) := by
  have n91 := ok.n91.2
  exact sum46m l.we 63 _ (bh l) H hH rfl (by omega) ok.wr (fun k hk => by have := bh_range ok hk; omega) (fun k hk => (high63 l ok k hk).at _)
set_option maxHeartbeats 2000000 in
theorem span58 (l : La) (ok : OkLa l) : Pure Try.prog 58 [tbV l] (rgV ⟨spLo l, spHi l⟩) := by
  refine pure_wkE (bad := []) (kp := kp58) (X := tx) (nt := 20) (rs := [.cell 2 40]) Try.func58 rfl rfl rfl rfl mo (by kernel_rfl) rfl rfl (fun hf => ?_)
  have h1 := sumlo ok [.cells [.d (.int .i64 0), .d (.int .i64 0)]] rfl
  have h2 := sumhi ok [.cells [.d (.int .i64 0), .d (.int .i64 0)]] rfl
  unfold ints at h1 h2
  have d3 : (List.drop 3 (tbD l)).length = 205 := by rw [List.length_drop, tbD_len]
  have g3 : (List.drop 3 (tbD l))[0]? = some (.sl (l.we.map iD)) := rfl
  simp (maxSteps := 2000000) only [go_sem, reduceIte, Nat.reduceEqDiff, Nat.reduceAdd, Nat.reduceLeDiff, Nat.reduceBEq, List.replicate_succ, lk73, lk58, lk59, lk62, lk63, tbV, tbD_len, d3, g3, List.isEmpty_cons]
  refine dops_at (h1) rfl rfl (by first | exact wk_refls _ | (repeat constructor)) (by kernel_rfl) ?_
  simp (maxSteps := 2000000) only [go_sem, reduceIte, Nat.reduceEqDiff, Nat.reduceAdd, Nat.reduceLeDiff, Nat.reduceBEq, List.replicate_succ, lk73, lk58, lk59, lk62, lk63, tbD_len, d3, g3, List.isEmpty_cons]
  refine dops_at (h2) rfl rfl (by first | exact wk_refls _ | (repeat constructor)) (by kernel_rfl) ?_
  simp (maxSteps := 2000000) only [go_sem, reduceIte, Nat.reduceEqDiff, Nat.reduceAdd, Nat.reduceLeDiff, Nat.reduceBEq, List.replicate_succ, lk73, lk58, lk59, lk62, lk63, rgV, rgC]
  all_goals first | exact .refl _ | exact ⟨.refl _, .refl _⟩ | exact ⟨.refl _, .refl _, .refl _⟩ | exact ⟨.refl _, _, rfl⟩ | exact ⟨_, rfl⟩ | exact ⟨.refl _, [], by simp⟩ | exact ⟨[], by simp⟩
theorem numsC_app (a b : Nat) (f : Nat → Int) : numsC (a + b) f = numsC a f ++ numsC b (fun k => f (a + k)) := by
  simp [numsC, List.range_add, Function.comp_def]
theorem numsC_cons (n : Nat) (f : Nat → Int) : numsC (n + 1) f = .d (.int .i64 (f 0)) :: numsC n (fun k => f (k + 1)) := by
  simp [numsC, List.range_succ_eq_map, Function.comp_def]
theorem ilv_shift (f g : Nat → Int) : (fun k => ilv f g (k + 1 + 1)) = ilv (fun i => f (i + 1)) (fun i => g (i + 1)) := funext fun k => by
  unfold ilv
  rw [show (k + 1 + 1) % 2 = k % 2 by omega, show (k + 1 + 1) / 2 = k / 2 + 1 by omega]
theorem rows_nums : ∀ (l : List Rg), (l.map rgD).flatten.map C.d = numsC (l.length * 2) (ilv (fun i => (gR l i).lo) (fun i => (gR l i).hi))
  | [] => rfl
  | r :: l => by
    have ih := rows_nums l
    rw [show (r :: l).length * 2 = l.length * 2 + 1 + 1 by simp; omega, numsC_cons, numsC_cons]
    have e1 : ilv (fun i => (gR (r :: l) i).lo) (fun i => (gR (r :: l) i).hi) 0 = r.lo := rfl
    have e2 : ilv (fun i => (gR (r :: l) i).lo) (fun i => (gR (r :: l) i).hi) (0 + 1) = r.hi := rfl
    rw [e1, e2, ilv_shift]
    simp only [List.map_cons, List.flatten_cons, List.map_append, ih, rgD, List.map_nil, List.cons_append, List.nil_append]
    rfl
theorem ilv_out {l : La} (ok : OkLa l) (k : Nat) : ilv (lis l) (his l) (l.an.length * 2 + k) = 0 := by
  unfold ilv lis his
  have e : l.li.length ≤ (l.an.length * 2 + k) / 2 := by have := ok.li; omega
  rw [gR_out e]; simp
theorem tab_copy {l : La} (ok : OkLa l) : setMany (tabC l (fun _ => 0) (fun _ => 0)) 4 (numsC (l.an.length * 2) (ilv (lis l) (his l))) = tabC l (ilv (lis l) (his l)) (fun _ => 0) := by
  have m11 := ok.m11
  obtain ⟨b, hb⟩ : ∃ b, 22 = l.an.length * 2 + b := ⟨22 - l.an.length * 2, by omega⟩
  rw [setMany_eq_spl _ _ _ (by rw [tab_len, numsC_len]; omega), spl, numsC_len]
  have e1 : (tabC l (fun _ => 0) (fun _ => 0)).take 4 = laC l := rfl
  have e2 : (tabC l (fun _ => 0) (fun _ => 0)).drop (4 + l.an.length * 2) = numsC b (fun _ => 0) ++ numsC 182 (fun _ => 0) := by
    rw [tabC, hb, numsC_app, List.append_assoc, ← List.append_assoc (laC l), List.drop_left' (by simp [laC, numsC_len]; omega)]
  have e3 : tabC l (ilv (lis l) (his l)) (fun _ => 0) = laC l ++ (numsC (l.an.length * 2) (ilv (lis l) (his l)) ++ (numsC b (fun _ => 0) ++ numsC 182 (fun _ => 0))) := by
    rw [tabC, hb, numsC_app, List.append_assoc]
    simp only [ilv_out ok]
  rw [e1, e2, e3, List.append_assoc]
theorem tab_zero (l : La) : laC l ++ List.replicate 204 (C.d (.int .i64 0)) = tabC l (fun _ => 0) (fun _ => 0) := by
  rw [tabC, ← zero_nums, ← zero_nums, List.replicate_append_replicate]
set_option maxHeartbeats 4000000 in
theorem table73 (l : La) (ok : OkLa l) : Pure Try.prog 73 [laV l] (tbV l) := by
  refine pure_fzE (bad := [2]) (kp := kp73) (X := tx) (nt := 17) (rs := [.tmp 2]) Try.func73 rfl rfl rfl rfl mo (by kernel_rfl) rfl rfl (fun hf => ?_)
  have hd := draw78 l ok
  have hz := tab_zero l
  have hli := ok.li
  have m11 := ok.m11
  simp (maxSteps := 2000000) only [go_sem, List.replicate_succ, lk73, lk58, lk59, lk62, lk63, laC, List.cons_append, List.nil_append] at hz hd
  have hmin : l.li.length.min 11 = l.an.length := by rw [hli]; exact Nat.min_eq_left m11
  have hm : srcCells [AB.cells [C.d (D.sl (List.map iD l.an)), C.d (D.sl (List.map rgD l.li)), C.d (D.sl (List.map bD l.fa)), C.d (D.sl (List.map iD l.we))], AB.cells (tabC l (fun _ => 0) (fun _ => 0))] 2 l.an.length (C.d (D.sl (List.map rgD l.li))) = some (numsC (l.an.length * 2) (ilv (lis l) (his l))) := by
    have hr := rows_nums l.li
    rw [hli] at hr
    have e : rowsOf (C.d (D.sl (List.map rgD l.li))) = some (List.map rgD l.li) := rfl
    simp only [srcCells, e]
    rw [if_pos ⟨by simp [hli], List.all_eq_true.2 fun r hr => by obtain ⟨x, _, rfl⟩ := List.mem_map.1 hr; rfl⟩, List.take_of_length_le (by simp [hli]), hr]; rfl
  have hc := tab_copy ok
  have c1 : decide (4 + l.an.length * 2 ≤ 208) = true := by simp; omega
  simp (maxSteps := 2000000) only [go_sem, reduceIte, Nat.reduceEqDiff, Nat.reduceAdd, Nat.reduceLT, Nat.reduceLeDiff, Nat.reduceBEq, List.replicate_succ, lk73, lk58, lk59, lk62, lk63, laV, laC, hz, hmin, hm, tab_len, numsC_len, hc]
  refine ⟨c1, pairsOk_ord (by kernel_rfl), ?_⟩
  refine aops_at (hd) rfl rfl (by first | exact wk_refls _ | (repeat constructor)) ?_
  simp (maxSteps := 2000000) only [go_sem, reduceIte, Nat.reduceEqDiff, List.replicate_succ, lk73, lk58, lk59, lk62, lk63]
  exact ⟨1, _, tbD l, _, rfl, by rw [tabC_d]; exact toDs_d _, .v (.c (.ptr 0 (Nat.zero_le _))), .refl _⟩
end Go.Proofs.Ytliamojogmlgjaa
