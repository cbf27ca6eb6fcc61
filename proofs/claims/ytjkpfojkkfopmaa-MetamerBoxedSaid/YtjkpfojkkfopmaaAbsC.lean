/- A contract that makes blocks holds behind every heap. -/
import Derived.Test.YtjkpfojkkfopmaaAbsB
import Derived.Test.YtjkpfojkkfopmaaME
import Derived.Test.YtjkpfojkkfopmaaMK
set_option linter.unusedSimpArgs false
set_option linter.unusedVariables false
namespace Go.Abs
open Go
theorem C.shift0 (c : C) : c.shift 0 = c := by cases c <;> simp [C.shift]
theorem map_shift0 (cs : List C) : cs.map (C.shift 0) = cs := by
  induction cs with
  | nil => rfl
  | cons c cs ih => rw [List.map_cons, ih, C.shift0]
theorem V.shift0 (v : V) : v.shift 0 = v := by
  cases v with
  | c x => simp only [V.shift, C.shift0]
  | agg cs => simp only [V.shift, map_shift0]
  | tup vs => rfl
theorem AB.shift0 (b : AB) : b.shift 0 = b := by
  cases b <;> simp only [AB.shift, map_shift0]
theorem ACall.lift0 {P : Program} {f : FuncId} {args : List V} {x0 : V} {B : List AB} (h : ACall P f args [] (one x0 B)) (ha : args.all (V.low 0) = true) (hx : x0.shB B.length = true) (hB : B.all (AB.shB B.length) = true) (H : List AB) :
    ACall P f args H (one (x0.shift H.length) (H ++ B.map (AB.shift H.length))) := by
  refine ⟨h.1, fun w G vs R hl hr => ?_⟩
  have hx' := hx
  have R0 : Rel w G ([] ++ H) := R
  have R1 : Rel w (G.clean 0) [] := (R0.trunc (H := []) rfl).clean
  refine (h.2 w (G.clean 0) vs R1 hl (fun i x v hx hv => ?_)).mono ?_
  · have h1 := List.all_eq_true.1 ha x (List.mem_of_getElem? hx)
    exact (VRel.trunc (H := []) (T := H) (hr i x v hx hv) h1).clean
  · rintro e w' ⟨v, x, H', G2, rfl, ⟨rfl, rfl⟩, R', hv, L⟩
    let n := H.length
    let m := H'.length
    let G3 : Gh := { S := G2.S, rho := fun i => if i < n then G.rho i else G2.rho (i - n), g := fun i => if i < n then G.g i else G2.g (i - n), role := fun b => if b < w.heap.size then G.role b else (G2.role b).map (n + ·) }
    have hlen : (H ++ H'.map (AB.shift n)).length = n + m := by simp [n, m]
    have rho_id : ∀ i, G3.rho (n + i) = G2.rho i := fun i => by
      show (if n + i < n then G.rho (n + i) else G2.rho (n + i - n)) = _
      rw [if_neg (by omega), Nat.add_sub_cancel_left]
    have g_id : ∀ i, G3.g (n + i) = G2.g i := fun i => by
      show (if n + i < n then G.g (n + i) else G2.g (n + i - n)) = _
      rw [if_neg (by omega), Nat.add_sub_cancel_left]
    have get_id : ∀ i, (H ++ H'.map (AB.shift n))[n + i]? = (H'[i]?).map (AB.shift n) := fun i => by
      rw [List.getElem?_append_right (by omega), Nat.add_sub_cancel_left, List.getElem?_map]
    have sr : ∀ (x : C) (u : Value), x.shB m = true → CRel w' G2 H' x u → CRel w' G3 (H ++ H'.map (AB.shift n)) (x.shift n) u := by
      intro x u hs h
      cases x with
      | any => exact .any u
      | nilp => cases h; exact .nilp
      | d x => cases h with
        | d _ _ h => exact .d _ _ h
      | dp ds => cases h with
        | dp _ b o f hcell hrel => exact .dp ds b o f hcell hrel
      | full rows => cases h with
        | full _ a n hn h => exact .full rows a n hn h
      | ptr i off =>
        have hs : i < m := by simpa [C.shB] using hs
        cases h with
        | ptr _ _ h =>
          have := CRel.ptr (w := w') (G := G3) (H := H ++ H'.map (AB.shift n)) (n + i) off (by rw [hlen]; omega)
          rwa [rho_id i] at this
      | ms i off len cap =>
        have hs : i < m := by simpa [C.shB] using hs
        cases h with
        | ms _ _ _ _ h =>
          have := CRel.ms (w := w') (G := G3) (H := H ++ H'.map (AB.shift n)) (n + i) off len cap (by rw [hlen]; omega)
          rwa [rho_id i] at this
      | mp i =>
        have hs : i < m := by simpa [C.shB] using hs
        cases h with
        | mp _ h =>
          have := CRel.mp (w := w') (G := G3) (H := H ++ H'.map (AB.shift n)) (n + i) (by rw [hlen]; omega)
          rwa [rho_id i] at this
      | vs i len =>
        have hs : i < m := by simpa [C.shB] using hs
        cases h with
        | vs _ _ a cap hid' ha hg =>
          refine .vs (n + i) len a cap (by rw [hlen]; omega) ha (fun m' sz cs hm => ?_)
          rw [get_id i, Option.map_eq_some_iff] at hm
          obtain ⟨b, hb, hm⟩ := hm
          rw [g_id i]
          cases b with
          | vec n1 sz1 cs1 =>
            simp only [AB.shift, AB.vec.injEq] at hm
            obtain ⟨rfl, rfl, _⟩ := hm
            exact hg n1 sz1 _ hb
          | _ => cases hm
      | _ => cases hs
    have hrole : ∀ b k, G2.role b = some k → w.heap.size ≤ b := fun b k hb => by
      cases Nat.lt_or_ge b w.heap.size with
      | inr h => exact h
      | inl hlt =>
        exfalso
        have h1 := L.role b hlt
        rw [hb] at h1
        simp only [Gh.clean] at h1
        cases hg : G.role b with
        | none => rw [hg] at h1; cases h1
        | some j => rw [hg] at h1; simp at h1
    have cl : ∀ b, (G.clean 0).role b = none := fun b => by
      simp only [Gh.clean]
      cases G.role b <;> simp
    have L3 : Later w G H w' G3 (H ++ H'.map (AB.shift n)) :=
      { size := L.size
        S := L.S
        Snew := fun b o hb hr h => L.Snew b o hb (cl b) h
        len := by rw [hlen]; exact Nat.le_add_right _ _
        rho := fun i hi => if_pos hi
        grow := fun i m0 sz hi hx => by
          rw [List.getElem?_append_left hi] at hx
          exact ⟨m0, hx, .inr ⟨rfl, if_pos hi⟩⟩
        vec := fun i m0 sz cs hi hx => by
          rw [List.getElem?_append_left hi] at hx
          exact ⟨m0, sz, cs, hx, .inr ⟨rfl, if_pos hi⟩⟩
        role := fun b hb => if_pos hb
        frame := fun b hb hr => L.frame b hb (cl b)
        os := L.os
        out := L.out }
    refine ⟨v, x.shift n, H ++ H'.map (AB.shift n), G3, rfl, ⟨rfl, rfl⟩, ⟨R'.sex, fun b k hb => ?_, fun i z hz => ?_⟩, ?_, L3⟩
    · have hb' : (if b < w.heap.size then G.role b else (G2.role b).map (n + ·)) = some k := hb
      by_cases hlt : b < w.heap.size
      · exact Nat.lt_of_lt_of_le hlt L.size
      · rw [if_neg hlt, Option.map_eq_some_iff] at hb'
        obtain ⟨k', hk, _⟩ := hb'
        exact R'.roleLt b k' hk
    · by_cases hi : i < n
      · rw [List.getElem?_append_left hi] at hz
        exact (R.ab i z hz).mono R L3 hi (fun b hb => L.frame b (R.roleLt b i hb) (cl b)) (fun b o hb hs => L.Snew b o (R.roleLt b i hb) (cl b) hs) (if_pos hi)
      · obtain ⟨j, rfl⟩ : ∃ j, i = n + j := ⟨i - n, by omega⟩
        rw [get_id j, Option.map_eq_some_iff] at hz
        obtain ⟨b, hb, rfl⟩ := hz
        refine ABRel.shift (m := m) (n := 0) (G := G2) (H := H') (k := j) (by rw [AB.shift0]; exact R'.ab j b hb) (fun x v hs h => sr x v hs (by rw [C.shift0] at h; exact h)) (List.all_eq_true.1 hB b (List.mem_of_getElem? hb)) (rho_id j) (g_id j) (fun c hc => ?_) (fun _ _ h => h)
        show (if c < w.heap.size then G.role c else (G2.role c).map (n + ·)) = some (n + j)
        rw [if_neg (by have := hrole c j hc; omega), hc]; rfl
    · cases x with
      | c y =>
        cases hv with
        | c _ _ h => exact .c _ _ (sr y v hx' h)
      | agg cs =>
        simp only [V.shB, List.all_eq_true] at hx'
        cases hv with
        | agg _ arr h =>
          refine .agg _ arr ⟨by simpa using h.1, fun i x v hx hv => ?_⟩
          rw [List.getElem?_map, Option.map_eq_some_iff] at hx
          obtain ⟨y, hy, rfl⟩ := hx
          have := h.2 i y v hy hv
          exact ⟨sr y v (hx' y (List.mem_of_getElem? hy)) this.1, this.2⟩
      | tup vs => cases hx'
/-- A block that nobody asks for any more. -/
theorem ent_gone {X : Cx} {s : St} (k : Nat) : Ent X s { slots := s.slots, heap := s.heap.set k .gone, marks := s.marks } := fun bs w G a hR => by
  have ne : ∀ id x, (s.heap.set k .gone)[id]? = some x → x ≠ AB.gone → s.heap[id]? = some x := fun id x h hx => by
    by_cases e : k = id
    · subst e
      have hl := (List.getElem?_eq_some_iff.1 h).1
      simp only [List.length_set] at hl
      simp [hl] at h
      exact absurd h.symm hx
    · rwa [List.getElem?_set_ne e] at h
  have L : Later w G s.heap w G (s.heap.set k .gone) :=
    { size := Nat.le_refl _, S := fun b o h => ⟨h, rfl⟩, Snew := fun _ _ _ _ h => h, len := by simp, rho := fun _ _ => rfl,
      grow := fun id n sz _ h => ⟨n, ne id _ h (by simp), .inr ⟨rfl, rfl⟩⟩, vec := fun id n sz cs _ h => ⟨n, sz, cs, ne id _ h (by simp), .inr ⟨rfl, rfl⟩⟩, role := fun _ _ => rfl, frame := fun _ _ _ => rfl, os := rfl, out := rfl }
  refine ⟨G, { rel := ⟨hR.rel.sex, hR.rel.roleLt, fun id x hx => ?_⟩, later := hR.later.trans L, base := hR.base, size := hR.size, slots := fun i => (hR.slots i).mono L, defers := hR.defers, marks := fun id hid => Nat.lt_of_lt_of_le (hR.marks id hid) L.len }⟩
  by_cases hx0 : x = AB.gone
  · subst hx0; exact .gone
  · have h1 := ne id x hx hx0
    exact (hR.rel.ab id x h1).mono hR.rel L (List.getElem?_eq_some_iff.1 h1).1 (fun b _ => rfl) (fun _ _ _ h => h) rfl
/-! ### The check of pairs without what names no block -/
def C.idB : C → Bool
  | .d _ => false
  | _ => true
def skB : AB → AB
  | .vec n sz cs => .vec n sz (cs.filter C.idB)
  | b => b
def skE2 : Eff → Eff
  | .puts id bs => .puts id (bs.map skB)
  | .put id b => .put id (skB b)
  | e => e
def skN2 (a : Note) : Note := { a with e := skE2 a.e }
theorem freeL_filter (id : Nat) : ∀ cs : List C, C.freeL id (cs.filter C.idB) = C.freeL id cs
  | [] => rfl
  | c :: cs => by
    rw [List.filter_cons]
    cases c <;> simp only [C.idB, if_true, Bool.false_eq_true, if_false, C.freeL, freeL_filter id cs, C.free, Bool.true_and]
theorem skE2_free (e : Eff) (id : Nat) : (skE2 e).freeB id = e.freeB id := by
  unfold skE2
  split
  · simp only [Eff.freeB, List.all_map]
    congr 1
    funext b
    cases b <;> simp only [Function.comp, skB, freeL_filter]
  · rename_i i b
    cases b <;> simp only [skB]
    simp only [Eff.freeB, freeL_filter]
  · rfl
theorem skE2_hole (e : Eff) : (skE2 e).hole = e.hole := by unfold skE2; split <;> rfl
theorem skE2_wide (e : Eff) : (skE2 e).wide = e.wide := by unfold skE2; split <;> simp [Eff.wide]
theorem skE2_loc (e : Eff) : (skE2 e).loc = e.loc := by unfold skE2; split <;> rfl
theorem pairsOk_sk2 {m3 : Bool} {ops : Array Oper} {acc : List Note} (h : pairsOk m3 ops (acc.map skN2) = true) : pairsOk m3 ops acc = true := by
  have e1 : pairs1 m3 ops (acc.map skN2) = pairs1 m3 ops acc := by
    simp only [pairs1, List.all_map, Function.comp_def]; rfl
  have e2 : ∀ tab, pairs2 m3 tab ops (acc.map skN2) = pairs2 m3 tab ops acc := fun tab => by
    simp only [pairs2, List.all_map, Function.comp_def]; rfl
  have e3 : ∀ tab, freeT tab (acc.map skN2) = freeT tab acc := fun tab => by
    simp only [freeT, List.all_map, Function.comp_def, skN2, skE2_hole, skE2_wide, skE2_free]
  have e4 : (acc.map skN2).all (fun a => a.e.loc) = acc.all (fun a => a.e.loc) := by
    simp only [List.all_map, Function.comp_def, skN2, skE2_loc]
  unfold pairsOk at h ⊢
  rw [e1, e2, e3, e4] at h
  exact h
end Go.Abs
