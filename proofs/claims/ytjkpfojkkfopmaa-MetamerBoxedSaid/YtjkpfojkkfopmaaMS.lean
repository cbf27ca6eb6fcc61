/- Metamers: the cells of spectra, without the program. -/
import Derived.Test.YtjkpfojkkfopmaaM15
import Derived.Test.YtjkpfojkkfopmaaMK
set_option linter.unusedSimpArgs false
set_option linter.unusedVariables false
set_option maxRecDepth 100000
namespace Go.Proofs.Ytjkpfojkkfopmaa
open Go Go.Abs Go.Proofs

/-- Entries. -/
abbrev Es := List (List Int × List Int)
theorem find_no {k : List Int} : ∀ {es : Es} (n : Nat), (∀ e ∈ es, e.1.length = k.length) → (∀ e ∈ es, e.1 ≠ k) → findE (.agg (k.map ic)) (es.map mpgV) n = some none
  | [], n, _, _ => rfl
  | e :: es, n, h, hn => by
    have he := eqCs_ints (a := k) (b := e.1) (h e (by simp)).symm
    have hs : keyEq (.agg (k.map ic)) (mpgV e).1 = some false := by
      show eqCs (k.map ic) (e.1.map ic) = some false
      rw [he]; simp [Ne.symm (hn e (by simp))]
    simp only [List.map_cons, findE, hs]
    exact find_no (n + 1) (fun e he => h e (List.mem_cons_of_mem _ he)) (fun e he => hn e (List.mem_cons_of_mem _ he))
theorem find_at {k l : List Int} : ∀ {es : Es} (n i : Nat), (∀ e ∈ es, e.1.length = k.length) → (es.map Prod.fst).Nodup → es[i]? = some (k, l) → findE (.agg (k.map ic)) (es.map mpgV) n = some (some (n + i, .c (.d (.sl (l.map ik)))))
  | [], n, i, _, _, h => by simp at h
  | e :: es, n, i, h, hd, hi => by
    have he := eqCs_ints (a := k) (b := e.1) (h e (by simp)).symm
    simp only [List.map_cons, List.nodup_cons] at hd
    cases i with
    | zero =>
      simp at hi
      subst hi
      have hs : keyEq (.agg (k.map ic)) (mpgV (k, l)).1 = some true := by
        show eqCs (k.map ic) (k.map ic) = some true
        rw [eqCs_ints rfl]; simp
      simp only [List.map_cons, findE, hs]
      rfl
    | succ i =>
      simp at hi
      have hne : k ≠ e.1 := fun e' => hd.1 (by rw [← e']; exact List.mem_map.2 ⟨(k, l), List.mem_of_getElem? hi, rfl⟩)
      have hs : keyEq (.agg (k.map ic)) (mpgV e).1 = some false := by
        show eqCs (k.map ic) (e.1.map ic) = some false
        rw [he]; simp [hne]
      simp only [List.map_cons, findE, hs]
      rw [find_at (n + 1) i (fun e he => h e (List.mem_cons_of_mem _ he)) hd.2 hi, Nat.add_assoc, Nat.add_comm 1 i]

/-- The sets of a cell. -/
def grp (key : Nat → List Int) (L : List Nat) (k : List Int) : List Int := (L.filter (fun t => decide (key t = k))).map (fun t : Nat => (t : Int))
theorem grp_app (key : Nat → List Int) (L : List Nat) (j : Nat) (k : List Int) : grp key (L ++ [j]) k = if key j = k then grp key L k ++ [(j : Int)] else grp key L k := by
  unfold grp
  rw [List.filter_append, List.map_append]
  split
  · rename_i h; simp [h]
  · rename_i h; simp [h]
theorem grp_cons (key : Nat → List Int) (L : List Nat) (j : Nat) (k : List Int) : grp key (j :: L) k = if key j = k then (j : Int) :: grp key L k else grp key L k := by
  unfold grp
  rw [List.filter_cons]
  split
  · rename_i h; rw [if_pos (by simpa using h)]; rfl
  · rename_i h; rw [if_neg (by simpa using h)]
theorem grp_nil {key : Nat → List Int} {L : List Nat} {k : List Int} (h : ∀ t ∈ L, key t ≠ k) : grp key L k = [] := by
  unfold grp
  rw [List.filter_eq_nil_iff.2 (fun t ht => by simpa using h t ht)]; rfl
/-- The map holds the sets of a list, by their cells. -/
structure MInv (key : Nat → List Int) (L : List Nat) (es : Es) : Prop where
  two : ∀ e ∈ es, e.1.length = 2
  val : ∀ e ∈ es, e.2 = grp key L e.1 ∧ e.2 ≠ []
  nd : (es.map Prod.fst).Nodup
  all : ∀ t ∈ L, ∃ e ∈ es, e.1 = key t
theorem MInv.nope {key : Nat → List Int} {L : List Nat} {es : Es} (h : MInv key L es) {k : List Int} (hk : ∀ e ∈ es, e.1 ≠ k) : grp key L k = [] := grp_nil fun t ht he => by
  obtain ⟨e, h1, h2⟩ := h.all t ht
  exact hk e h1 (by rw [h2, he])
/-- What is found. -/
theorem MInv.find {key : Nat → List Int} {L : List Nat} {es : Es} (h : MInv key L es) {k : List Int} (hk : k.length = 2) :
    (findE (.agg (k.map ic)) (es.map mpgV) 0 = some none ∧ grp key L k = [] ∧ ∀ e ∈ es, e.1 ≠ k) ∨ (∃ i, es[i]? = some (k, grp key L k) ∧ grp key L k ≠ [] ∧ findE (.agg (k.map ic)) (es.map mpgV) 0 = some (some (i, .c (.d (.sl ((grp key L k).map ik)))))) := by
  have hl : ∀ e ∈ es, e.1.length = k.length := fun e he => by rw [h.two e he, hk]
  by_cases hx : ∃ e ∈ es, e.1 = k
  · obtain ⟨e, he, rfl⟩ := hx
    obtain ⟨i, hi⟩ := List.getElem?_of_mem he
    obtain ⟨hv, hv2⟩ := h.val e he
    have hi' : es[i]? = some (e.1, grp key L e.1) := by rw [hi, ← hv]
    have := find_at 0 i hl h.nd hi'
    rw [Nat.zero_add] at this
    exact .inr ⟨i, hi', by rw [← hv]; exact hv2, this⟩
  · have hn : ∀ e ∈ es, e.1 ≠ k := fun e he e' => hx ⟨e, he, e'⟩
    exact .inl ⟨find_no 0 hl hn, h.nope hn, hn⟩
theorem mpgApp_keys {k : List Int} {m : Int} : ∀ {es : Es}, ∀ e ∈ mpgApp k m es, e.1 = k ∨ e ∈ es
  | [], e, he => by simp [mpgApp] at he; exact .inl (by rw [he])
  | x :: es, e, he => by
    simp only [mpgApp] at he
    split at he
    · rcases List.mem_cons.1 he with rfl | he
      · exact .inl rfl
      · exact .inr (List.mem_cons_of_mem _ he)
    · rcases List.mem_cons.1 he with rfl | he
      · exact .inr (by simp)
      · rcases mpgApp_keys e he with h | h
        · exact .inl h
        · exact .inr (List.mem_cons_of_mem _ h)
theorem MInv.app {key : Nat → List Int} {L : List Nat} {es : Es} (h : MInv key L es) {j : Nat} (hk : (key j).length = 2) : MInv key (L ++ [j]) (mpgApp (key j) j es) := by
  have hl : ∀ e ∈ es, e.1.length = (key j).length := fun e he => by rw [h.two e he, hk]
  rcases mpg_find (k := key j) (m := j) 0 hl with ⟨_, ha⟩ | ⟨i, l, hi, _, ha⟩
  · by_cases hx : ∃ e ∈ es, e.1 = key j
    · obtain ⟨e, he, he2⟩ := hx
      -- then it would be found
      exfalso
      have hc : ∀ {es : Es}, (∃ e ∈ es, e.1 = key j) → (mpgApp (key j) j es).length = es.length := by
        intro es
        induction es with
        | nil => rintro ⟨e, he, _⟩; simp at he
        | cons x es ih =>
          rintro ⟨e, he, h2⟩
          simp only [mpgApp]
          split
          · simp
          · rename_i hne
            rcases List.mem_cons.1 he with rfl | he
            · exact absurd h2 hne
            · simp [ih ⟨e, he, h2⟩]
      have := hc ⟨e, he, he2⟩
      rw [ha] at this
      simp at this
    have hn : ∀ e ∈ es, e.1 ≠ key j := fun e he e' => hx ⟨e, he, e'⟩
    have hg := h.nope hn
    rw [ha]
    refine ⟨fun e he => ?_, fun e he => ?_, ?_, fun t ht => ?_⟩
    · rcases List.mem_append.1 he with he | he
      · exact h.two e he
      · simp at he; rw [he]; exact hk
    · rcases List.mem_append.1 he with he | he
      · obtain ⟨h1, h2⟩ := h.val e he
        rw [grp_app, if_neg (Ne.symm (hn e he))]
        exact ⟨h1, h2⟩
      · simp at he
        rw [he, grp_app, if_pos rfl, hg]
        exact ⟨rfl, by simp⟩
    · rw [List.map_append]
      refine List.nodup_append.2 ⟨h.nd, by simp, fun a ha b hb => ?_⟩
      simp at hb
      subst hb
      obtain ⟨e, he, rfl⟩ := List.mem_map.1 ha
      exact hn e he
    · rcases List.mem_append.1 ht with ht | ht
      · obtain ⟨e, he, h2⟩ := h.all t ht
        exact ⟨e, List.mem_append_left _ he, h2⟩
      · simp at ht; subst ht
        exact ⟨(key t, [(t : Int)]), by simp, rfl⟩
  · have hv := h.val _ (List.mem_of_getElem? hi)
    have hlt := (List.getElem?_eq_some_iff.1 hi).1
    have hv1 : l = grp key L (key j) := hv.1
    have hmem : ∀ e, e ∈ es.set i (key j, l ++ [(j : Int)]) → e = (key j, l ++ [(j : Int)]) ∨ (e ∈ es ∧ e.1 ≠ key j) := fun e he => by
      obtain ⟨q, hq⟩ := List.getElem?_of_mem he
      by_cases e' : i = q
      · subst e'; rw [List.getElem?_set_self hlt] at hq; cases hq; exact .inl rfl
      · rw [List.getElem?_set_ne e'] at hq
        refine .inr ⟨List.mem_of_getElem? hq, fun hk' => e' ?_⟩
        have h1 : (es.map Prod.fst)[i]? = some (key j) := by rw [List.getElem?_map, hi]; rfl
        have h2 : (es.map Prod.fst)[q]? = some (key j) := by rw [List.getElem?_map, hq]; simp [hk']
        exact ((List.getElem?_inj (by simpa using hlt) h.nd).1 (h1.trans h2.symm))
    rw [ha]
    refine ⟨fun e he => ?_, fun e he => ?_, ?_, fun t ht => ?_⟩
    · rcases hmem e he with rfl | ⟨he, _⟩
      · exact hk
      · exact h.two e he
    · rcases hmem e he with rfl | ⟨he, hne⟩
      · rw [grp_app, if_pos rfl, ← hv1]
        exact ⟨rfl, by simp⟩
      · rw [grp_app, if_neg (Ne.symm hne)]
        exact h.val e he
    · have e : (es.set i (key j, l ++ [(j : Int)])).map Prod.fst = es.map Prod.fst := by
        rw [List.map_set]
        refine List.ext_getElem? fun q => ?_
        by_cases e' : i = q
        · subst e'
          rw [List.getElem?_set_self (by simpa using hlt), List.getElem?_map, hi]; rfl
        · rw [List.getElem?_set_ne e']
      rw [e]; exact h.nd
    · have hin : ∀ e ∈ es, ∃ e' ∈ es.set i (key j, l ++ [(j : Int)]), e'.1 = e.1 := fun e he => by
        obtain ⟨q, hq⟩ := List.getElem?_of_mem he
        by_cases e' : i = q
        · subst e'
          rw [hi] at hq; cases hq
          exact ⟨(key j, l ++ [(j : Int)]), List.mem_of_getElem? (List.getElem?_set_self hlt), rfl⟩
        · exact ⟨e, List.mem_of_getElem? (by rw [List.getElem?_set_ne e']; exact hq), rfl⟩
      rcases List.mem_append.1 ht with ht | ht
      · obtain ⟨e, he, h2⟩ := h.all t ht
        obtain ⟨e', h3, h4⟩ := hin e he
        exact ⟨e', h3, h4.trans h2⟩
      · simp at ht; subst ht
        obtain ⟨e', h3, h4⟩ := hin _ (List.mem_of_getElem? hi)
        exact ⟨e', h3, h4⟩
/-- The first set is taken out of its cell. -/
theorem MInv.tail {key : Nat → List Int} {L : List Nat} {es : Es} {s i : Nat} (h : MInv key (s :: L) es) (hi : es[i]? = some (key s, grp key (s :: L) (key s))) (hne : grp key L (key s) ≠ []) : MInv key L (es.set i (key s, grp key L (key s))) := by
  have hlt := (List.getElem?_eq_some_iff.1 hi).1
  have hmem : ∀ e, e ∈ es.set i (key s, grp key L (key s)) → e = (key s, grp key L (key s)) ∨ (e ∈ es ∧ e.1 ≠ key s) := fun e he => by
    obtain ⟨q, hq⟩ := List.getElem?_of_mem he
    by_cases e' : i = q
    · subst e'; rw [List.getElem?_set_self hlt] at hq; cases hq; exact .inl rfl
    · rw [List.getElem?_set_ne e'] at hq
      refine .inr ⟨List.mem_of_getElem? hq, fun hk' => e' ?_⟩
      have h1 : (es.map Prod.fst)[i]? = some (key s) := by rw [List.getElem?_map, hi]; rfl
      have h2 : (es.map Prod.fst)[q]? = some (key s) := by rw [List.getElem?_map, hq]; simp [hk']
      exact ((List.getElem?_inj (by simpa using hlt) h.nd).1 (h1.trans h2.symm))
  refine ⟨fun e he => ?_, fun e he => ?_, ?_, fun t ht => ?_⟩
  · rcases hmem e he with rfl | ⟨he, _⟩
    · exact h.two (key s, grp key (s :: L) (key s)) (List.mem_of_getElem? hi)
    · exact h.two e he
  · rcases hmem e he with rfl | ⟨he, hk⟩
    · exact ⟨rfl, hne⟩
    · have := h.val e he
      rw [grp_cons, if_neg (Ne.symm hk)] at this
      exact this
  · have e : (es.set i (key s, grp key L (key s))).map Prod.fst = es.map Prod.fst := by
      rw [List.map_set]
      refine List.ext_getElem? fun q => ?_
      by_cases e' : i = q
      · subst e'
        rw [List.getElem?_set_self (by simpa using hlt), List.getElem?_map, hi]; rfl
      · rw [List.getElem?_set_ne e']
    rw [e]; exact h.nd
  · obtain ⟨e, he, h2⟩ := h.all t (List.mem_cons_of_mem _ ht)
    obtain ⟨q, hq⟩ := List.getElem?_of_mem he
    by_cases e' : i = q
    · subst e'
      rw [hi] at hq; cases hq
      exact ⟨_, List.mem_of_getElem? (List.getElem?_set_self hlt), h2⟩
    · exact ⟨e, List.mem_of_getElem? (by rw [List.getElem?_set_ne e']; exact hq), h2⟩
/-- The cell of the first set, that has no other one, goes. -/
theorem MInv.erase {key : Nat → List Int} {L : List Nat} {es : Es} {s i : Nat} {l : List Int} (h : MInv key (s :: L) es) (hi : es[i]? = some (key s, grp key (s :: L) (key s))) (hne : grp key L (key s) = []) : MInv key L ((es.set i (key s, l)).eraseIdx i) := by
  have hlt := (List.getElem?_eq_some_iff.1 hi).1
  have e0 : (es.set i (key s, l)).eraseIdx i = es.eraseIdx i := by
    rw [List.eraseIdx_set_eq]
  rw [e0]
  have hmem : ∀ e, e ∈ es.eraseIdx i → e ∈ es ∧ e.1 ≠ key s := fun e he => by
    obtain ⟨q, hq⟩ := List.getElem?_of_mem he
    rw [List.getElem?_eraseIdx] at hq
    have key2 : ∀ q, q ≠ i → es[q]? = some e → e ∈ es ∧ e.1 ≠ key s := fun q hqi hq => by
      refine ⟨List.mem_of_getElem? hq, fun hk' => hqi ?_⟩
      have h1 : (es.map Prod.fst)[i]? = some (key s) := by rw [List.getElem?_map, hi]; rfl
      have h2 : (es.map Prod.fst)[q]? = some (key s) := by rw [List.getElem?_map, hq]; simp [hk']
      exact ((List.getElem?_inj (by simpa using hlt) h.nd).1 (h1.trans h2.symm)).symm
    split at hq
    · exact key2 q (by omega) hq
    · exact key2 (q + 1) (by omega) hq
  refine ⟨fun e he => h.two e (hmem e he).1, fun e he => ?_, ?_, fun t ht => ?_⟩
  · obtain ⟨h1, h2⟩ := hmem e he
    have := h.val e h1
    rw [grp_cons, if_neg (Ne.symm h2)] at this
    exact this
  · have e : (es.eraseIdx i).map Prod.fst = (es.map Prod.fst).eraseIdx i := by
      
      refine List.ext_getElem? fun q => ?_
      rw [List.getElem?_map, List.getElem?_eraseIdx, List.getElem?_eraseIdx]
      split <;> rw [List.getElem?_map]
    rw [e]
    exact h.nd.sublist (List.eraseIdx_sublist _ _)
  · obtain ⟨e, he, h2⟩ := h.all t (List.mem_cons_of_mem _ ht)
    have hk : key t ≠ key s := fun hk => by
      have : (t : Int) ∈ grp key L (key s) := List.mem_map.2 ⟨t, List.mem_filter.2 ⟨ht, by simp [hk]⟩, rfl⟩
      rw [hne] at this
      simp at this
    obtain ⟨q, hq⟩ := List.getElem?_of_mem he
    have hqi : q ≠ i := fun e' => by
      subst e'
      rw [hi] at hq; cases hq
      exact hk h2.symm
    refine ⟨e, ?_, h2⟩
    by_cases hlt2 : q < i
    · exact List.mem_of_getElem? (by rw [List.getElem?_eraseIdx, if_pos hlt2]; exact hq)
    · exact List.mem_of_getElem? (i := q - 1) (by rw [List.getElem?_eraseIdx, if_neg (by omega), show q - 1 + 1 = q by omega]; exact hq)
end Go.Proofs.Ytjkpfojkkfopmaa
/- Metamers: two sets that clash. -/
set_option linter.unusedSimpArgs false
set_option linter.unusedVariables false
set_option maxRecDepth 100000
namespace Go.Proofs.Ytjkpfojkkfopmaa
open Go Go.Abs Go.Proofs

/-! ### The least of those that are near -/
def stepN (nr : Int → Bool) (st : Bool × Int) (t : Int) : Bool × Int := if nr t then (true, if st.1 then min st.2 t else t) else st
def accL (nr : Int → Bool) (l : List Int) (st : Bool × Int) : Bool × Int := l.foldl (stepN nr) st
theorem accL_succ (nr : Int → Bool) {l : List Int} {q : Nat} {x : Int} (h : l[q]? = some x) (st : Bool × Int) : accL nr (l.take (q + 1)) st = stepN nr (accL nr (l.take q) st) x := by
  unfold accL
  rw [take_succ_eq h, List.foldl_append]; rfl
def rowA (nr : Int → Bool) (g : Int → List Int) (b : Int) : Nat → Bool × Int → Bool × Int
  | 0, st => st
  | n + 1, st => accL nr (g (b + n)) (rowA nr g b n st)
def colA (nr : Int → Bool) (g : Int → Int → List Int) (a b : Int) : Nat → Bool × Int → Bool × Int
  | 0, st => st
  | n + 1, st => rowA nr (g (a + n)) b 3 (colA nr g a b n st)
def BestOf (nr : Int → Bool) (S : Int → Prop) (st : Bool × Int) : Prop := (st.1 = true → S st.2 ∧ nr st.2 = true) ∧ ∀ t, S t → nr t = true → st.1 = true ∧ st.2 ≤ t
theorem BestOf.step {nr : Int → Bool} {S : Int → Prop} {st : Bool × Int} (h : BestOf nr S st) (x : Int) : BestOf nr (fun t => S t ∨ t = x) (stepN nr st x) := by
  obtain ⟨ok, b⟩ := st
  obtain ⟨h1, h2⟩ := h
  unfold stepN
  by_cases hx : nr x = true
  · rw [if_pos hx]
    cases ok with
    | true =>
      obtain ⟨g1, g2⟩ := h1 rfl
      refine ⟨fun _ => ?_, fun t ht hn => ⟨rfl, ?_⟩⟩
      · show (S (min b x) ∨ min b x = x) ∧ nr (min b x) = true
        by_cases e : b ≤ x
        · rw [Int.min_eq_left e]; exact ⟨.inl g1, g2⟩
        · rw [Int.min_eq_right (by omega)]; exact ⟨.inr rfl, hx⟩
      · show min b x ≤ t
        rcases ht with ht | rfl
        · have := (h2 t ht hn).2
          simp only at this
          omega
        · omega
    | false =>
      refine ⟨fun _ => ⟨.inr rfl, hx⟩, fun t ht hn => ⟨rfl, ?_⟩⟩
      rcases ht with ht | rfl
      · exact absurd (h2 t ht hn).1 (by simp)
      · exact Int.le_refl _
  · rw [if_neg hx]
    refine ⟨fun h => ⟨.inl (h1 h).1, (h1 h).2⟩, fun t ht hn => ?_⟩
    rcases ht with ht | rfl
    · exact h2 t ht hn
    · exact absurd hn hx
theorem BestOf.congr {nr : Int → Bool} {S S' : Int → Prop} {st : Bool × Int} (h : BestOf nr S st) (hs : ∀ t, S t ↔ S' t) : BestOf nr S' st :=
  ⟨fun e => ⟨(hs _).1 (h.1 e).1, (h.1 e).2⟩, fun t ht => h.2 t ((hs t).2 ht)⟩
theorem BestOf.acc {nr : Int → Bool} : ∀ {l : List Int} {S : Int → Prop} {st : Bool × Int}, BestOf nr S st → BestOf nr (fun t => S t ∨ t ∈ l) (accL nr l st)
  | [], S, st, h => h.congr fun t => by simp
  | x :: l, S, st, h => (BestOf.acc (l := l) (h.step x)).congr fun t => by simp [or_assoc]
theorem BestOf.row {nr : Int → Bool} {g : Int → List Int} {b : Int} {S : Int → Prop} {st : Bool × Int} (h : BestOf nr S st) : ∀ n : Nat, BestOf nr (fun t => S t ∨ ∃ j : Nat, j < n ∧ t ∈ g (b + j)) (rowA nr g b n st)
  | 0 => h.congr fun t => by simp
  | n + 1 => (BestOf.acc (l := g (b + n)) (BestOf.row h n)).congr fun t => by
    constructor
    · rintro ((h | ⟨j, hj, h⟩) | h)
      · exact .inl h
      · exact .inr ⟨j, by omega, h⟩
      · exact .inr ⟨n, by omega, h⟩
    · rintro (h | ⟨j, hj, h⟩)
      · exact .inl (.inl h)
      · by_cases e : j = n
        · subst e; exact .inr h
        · exact .inl (.inr ⟨j, by omega, h⟩)
theorem BestOf.col {nr : Int → Bool} {g : Int → Int → List Int} {a b : Int} : ∀ n : Nat, BestOf nr (fun t => ∃ i j : Nat, i < n ∧ j < 3 ∧ t ∈ g (a + i) (b + j)) (colA nr g a b n (false, 0))
  | 0 => ⟨fun h => (by cases h), fun t ht => by obtain ⟨i, _, h, _⟩ := ht; omega⟩
  | n + 1 => (BestOf.row (g := g (a + n)) (b := b) (BestOf.col n) 3).congr fun t => by
    constructor
    · rintro (⟨i, j, hi, hj, h⟩ | ⟨j, hj, h⟩)
      · exact ⟨i, j, by omega, hj, h⟩
      · exact ⟨n, j, by omega, hj, h⟩
    · rintro ⟨i, j, hi, hj, h⟩
      by_cases e : i = n
      · subst e; exact .inr ⟨j, hj, h⟩
      · exact .inl ⟨i, j, by omega, hj, h⟩

/-! ### Cells of sets -/
def celL (l : List Int) (step : Int) : List Int := [(gI l 0).tdiv step, (gI l (l.length - 1)).tdiv step]
theorem celC_ic (l : List Int) (step : Int) : celC l step = (celL l step).map ic := rfl
def keyP (p : Pal) (t : Nat) : List Int := celL (sumL p t) (2 * p.err + 1)
def nrP (p : Pal) (s : Nat) (t : Int) : Bool := nearP p s t.toNat
theorem near_at {a b : List Int} {m x y : Int} (h : nearB a b m = true) {i : Nat} (hx : a[i]? = some x) (hy : b[i]? = some y) : y - m ≤ x ∧ x ≤ y + m := by
  by_cases hf : farB m (x, y) = true
  · have := nearB_bad (m := m) hx hy hf
    rw [h] at this; cases this
  · simp only [farB] at hf
    simp at hf
    omega
theorem div_near {x y st : Int} (hx : 0 ≤ x) (hy : 0 ≤ y) (hs : 1 ≤ st) (h : y - (st - 1) ≤ x ∧ x ≤ y + (st - 1)) : x.tdiv st - 1 ≤ y.tdiv st ∧ y.tdiv st ≤ x.tdiv st + 1 := by
  rw [Int.tdiv_eq_ediv_of_nonneg hx, Int.tdiv_eq_ediv_of_nonneg hy]
  have h1 : x / st ≤ (y + 1 * st) / st := Int.ediv_le_ediv (by omega) (by omega)
  have h2 : y / st ≤ (x + 1 * st) / st := Int.ediv_le_ediv (by omega) (by omega)
  rw [Int.add_mul_ediv_right _ _ (by omega)] at h1 h2
  omega
theorem sumL_nonneg {p : Pal} (hp : OkP p) (s : Nat) : ∀ y ∈ sumL p s, 0 ≤ y ∧ y ≤ 1000000 := fun y hy => by
  simp only [sumL, List.mem_map, List.mem_range] at hy
  obtain ⟨b, _, rfl⟩ := hy
  have := sumB_bound hp s b p.pig.length
  have := hp.k12
  omega
theorem keyP_near {p : Pal} (hp : OkP p) {s t : Nat} (h : nearP p s t = true) : ∃ i j : Nat, i < 3 ∧ j < 3 ∧ keyP p t = [(gI (sumL p s) 0).tdiv (2 * p.err + 1) - 1 + i, (gI (sumL p s) ((sumL p s).length - 1)).tdiv (2 * p.err + 1) - 1 + j] := by
  have h1 := hp.n1
  have e0 := hp.e0
  have l1 := sumL_len p s
  have l2 := sumL_len p t
  have key : ∀ b, b < p.n → (gI (sumL p s) b).tdiv (2 * p.err + 1) - 1 ≤ (gI (sumL p t) b).tdiv (2 * p.err + 1) ∧ (gI (sumL p t) b).tdiv (2 * p.err + 1) ≤ (gI (sumL p s) b).tdiv (2 * p.err + 1) + 1 := fun b hb => by
    have g1 := gI_lt (l := sumL p s) (b := b) (by omega)
    have g2 := gI_lt (l := sumL p t) (b := b) (by omega)
    have hn := near_at h g1 g2
    have b1 := sumL_nonneg hp s _ (List.mem_of_getElem? g1)
    have b2 := sumL_nonneg hp t _ (List.mem_of_getElem? g2)
    exact div_near b1.1 b2.1 (by omega) (by omega)
  have k0 := key 0 h1
  have k1 := key (p.n - 1) (by omega)
  refine ⟨((gI (sumL p t) 0).tdiv (2 * p.err + 1) - ((gI (sumL p s) 0).tdiv (2 * p.err + 1) - 1)).toNat, ((gI (sumL p t) (p.n - 1)).tdiv (2 * p.err + 1) - ((gI (sumL p s) (p.n - 1)).tdiv (2 * p.err + 1) - 1)).toNat, by omega, by omega, ?_⟩
  rw [keyP, celL, l1, l2]
  congr 1
  · omega
  · congr 1
    omega
/-- What is found for a set. -/
def fndP (p : Pal) (s : Nat) (L : List Nat) : Nat → Bool × Int := fun n => colA (nrP p s) (fun i k => grp (keyP p) L [i, k]) ((gI (sumL p s) 0).tdiv (2 * p.err + 1) - 1) ((gI (sumL p s) ((sumL p s).length - 1)).tdiv (2 * p.err + 1) - 1) n (false, 0)
theorem fnd_spec {p : Pal} (hp : OkP p) {s n : Nat} (hn : n + s + 1 = 2 ^ p.pig.length) : ((fndP p s (List.range' (s + 1) n) 3).1 = false → cT p s = none) ∧ ((fndP p s (List.range' (s + 1) n) 3).1 = true → ∃ t : Nat, (fndP p s (List.range' (s + 1) n) 3).2 = t ∧ cT p s = some t) := by
  have hb := BestOf.col (nr := nrP p s) (g := fun i k => grp (keyP p) (List.range' (s + 1) n) [i, k]) (a := (gI (sumL p s) 0).tdiv (2 * p.err + 1) - 1) (b := (gI (sumL p s) ((sumL p s).length - 1)).tdiv (2 * p.err + 1) - 1) 3
  have hin : ∀ t : Nat, s < t → t < 2 ^ p.pig.length → nearP p s t = true → ∃ i j : Nat, i < 3 ∧ j < 3 ∧ (t : Int) ∈ grp (keyP p) (List.range' (s + 1) n) [(gI (sumL p s) 0).tdiv (2 * p.err + 1) - 1 + i, (gI (sumL p s) ((sumL p s).length - 1)).tdiv (2 * p.err + 1) - 1 + j] := fun t h1 h2 h3 => by
    obtain ⟨i, j, hi, hj, hk⟩ := keyP_near hp h3
    refine ⟨i, j, hi, hj, List.mem_map.2 ⟨t, List.mem_filter.2 ⟨List.mem_range'_1.2 ⟨by omega, by omega⟩, by simpa using hk⟩, rfl⟩⟩
  have hout : ∀ (x : Int) (k : List Int), x ∈ grp (keyP p) (List.range' (s + 1) n) k → ∃ t : Nat, x = t ∧ s < t ∧ t < 2 ^ p.pig.length := fun x k hx => by
    obtain ⟨t, ht, rfl⟩ := List.mem_map.1 hx
    have := List.mem_range'_1.1 (List.mem_filter.1 ht).1
    exact ⟨t, rfl, by omega, by omega⟩
  unfold fndP
  generalize colA _ _ _ _ 3 _ = st at hb ⊢
  obtain ⟨h1, h2⟩ := hb
  constructor
  · intro e
    refine cT_none fun j hj1 hj2 => ?_
    cases hnr : nearP p s j with
    | false => rfl
    | true =>
      have := (h2 j (hin j hj1 hj2 hnr) (by simpa [nrP] using hnr)).1
      rw [e] at this; cases this
  · intro e
    obtain ⟨⟨i, j, _, _, hm⟩, hnr⟩ := h1 e
    obtain ⟨t, ht, ht1, ht2⟩ := hout _ _ hm
    refine ⟨t, ht, firstB_some (fun q hq => ?_) (by rw [ht] at hnr; simp only [nrP, Int.toNat_natCast] at hnr; simp [ht1, hnr]) ht2⟩
    by_cases hsq : s < q
    · cases hq2 : nearP p s q with
      | false => simp
      | true =>
        have := (h2 q (hin q hsq (by omega) hq2) (by simpa [nrP] using hq2)).2
        omega
    · simp [hsq]
end Go.Proofs.Ytjkpfojkkfopmaa
