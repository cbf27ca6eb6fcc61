/- Lists of blocks behind a heap; a contract that changes blocks holds at a longer heap. -/
import Derived.Test.YtjkpfojkkfopmaaMK
set_option linter.unusedSimpArgs false
set_option linter.unusedVariables false
namespace Go.Abs
open Go
mutual
theorem C.low_mono {n m : Nat} (h : n ≤ m) : ∀ {c : C}, c.low n = true → c.low m = true
  | .ptr i _, hc => by simp [C.low] at hc ⊢; omega
  | .own i _, hc => by simp [C.low] at hc ⊢; omega
  | .ms i _ _ _, hc => by simp [C.low] at hc ⊢; omega
  | .mp i, hc => by simp [C.low] at hc ⊢; omega
  | .yd i, hc => by simp [C.low] at hc ⊢; omega
  | .vs i _, hc => by simp [C.low] at hc ⊢; omega
  | .vc i _, hc => by simp [C.low] at hc ⊢; omega
  | .fs _ _ cs, hc => by simp only [C.low] at hc ⊢; exact C.lowL_mono h hc
  | .vp i _ _, hc => by simp [C.low] at hc ⊢; omega
  | .fn _ cs, hc => by simp only [C.low] at hc ⊢; exact C.lowL_mono h hc
  | .mv _ x, hc => by simp only [C.low] at hc ⊢; exact C.low_mono h hc
  | .ma _ cs, hc => by simp only [C.low] at hc ⊢; exact C.lowL_mono h hc
  | .any, _ => rfl
  | .d _, _ => rfl
  | .nilp, _ => rfl
  | .dp _, _ => rfl
  | .full _, _ => rfl
  | .gp _, _ => rfl
theorem C.lowL_mono {n m : Nat} (h : n ≤ m) : ∀ {cs : List C}, C.lowL n cs = true → C.lowL m cs = true
  | [], _ => rfl
  | c :: cs, hc => by simp only [C.lowL, Bool.and_eq_true] at hc ⊢; exact ⟨C.low_mono h hc.1, C.lowL_mono h hc.2⟩
end
mutual
theorem V.low_mono {n m : Nat} (h : n ≤ m) : ∀ {v : V}, v.low n = true → v.low m = true
  | V.c _, hc => by simp only [V.low] at hc ⊢; exact C.low_mono h hc
  | V.agg _, hc => by simp only [V.low] at hc ⊢; exact C.lowL_mono h hc
  | V.tup _, hc => by simp only [V.low] at hc ⊢; exact V.lowL_mono h hc
theorem V.lowL_mono {n m : Nat} (h : n ≤ m) : ∀ {cs : List V}, V.lowL n cs = true → V.lowL m cs = true
  | [], _ => rfl
  | x :: cs, hc => by simp only [V.lowL, Bool.and_eq_true] at hc ⊢; exact ⟨V.low_mono h hc.1, V.lowL_mono h hc.2⟩
end
theorem AB.low_mono {n m : Nat} (h : n ≤ m) : ∀ {b : AB}, b.low n = true → b.low m = true
  | .cells cs, hb => by simp only [AB.low] at hb ⊢; exact C.lowL_mono h hb
  | .vec _ _ cs, hb => by simp only [AB.low] at hb ⊢; exact C.lowL_mono h hb
  | .mp es, hb => by
    simp only [AB.low, List.all_eq_true, Bool.and_eq_true] at hb ⊢
    exact fun e he => ⟨V.low_mono h (hb e he).1, V.low_mono h (hb e he).2⟩
  | .lp r, hb => by
    simp only [AB.low, List.all_eq_true, Bool.and_eq_true, decide_eq_true_eq] at hb ⊢
    exact ⟨by omega, fun p hp => V.low_mono h (hb.2 p hp)⟩
  | .gone, _ => rfl
  | .grow _ _, _ => rfl
  | .mpg _, _ => rfl
  | .gl _ _, _ => rfl
  | .df, _ => rfl
theorem all_low_mono {H : List AB} {n m : Nat} (h : H.all (AB.low n) = true) (hm : n ≤ m) : H.all (AB.low m) = true := List.all_eq_true.2 fun x hx => AB.low_mono hm (List.all_eq_true.1 h x hx)
/-- The heap with blocks behind it. -/
theorem all_low_app {H T : List AB} {n : Nat} (h : H.all (AB.low H.length) = true) (hn : H.length ≤ n) (ht : T.all (AB.low n) = true) : (H ++ T).all (AB.low n) = true := by
  rw [List.all_append, Bool.and_eq_true]; exact ⟨all_low_mono h hn, ht⟩
theorem ap0 {α : Type} (H T : List α) : (H ++ T)[H.length]? = T[0]? := by rw [List.getElem?_append_right (Nat.le_refl _), Nat.sub_self]
theorem apk {α : Type} (H T : List α) (k : Nat) : (H ++ T)[H.length + k]? = T[k]? := by rw [List.getElem?_append_right (Nat.le_add_right _ _), Nat.add_sub_cancel_left]
theorem st0 {α : Type} (H T : List α) (v : α) : (H ++ T).set H.length v = H ++ T.set 0 v := by rw [List.set_append_right _ _ (Nat.le_refl _), Nat.sub_self]
theorem stk {α : Type} (H T : List α) (k : Nat) (v : α) : (H ++ T).set (H.length + k) v = H ++ T.set k v := by rw [List.set_append_right _ _ (Nat.le_add_right _ _), Nat.add_sub_cancel_left]
theorem ap_lt {α : Type} {H : List α} (T : List α) {i : Nat} {x : α} (h : H[i]? = some x) : (H ++ T)[i]? = some x := by rw [List.getElem?_append_left (List.getElem?_eq_some_iff.1 h).1]; exact h
theorem lt_ap (n : Nat) {k : Nat} : (n < n + (k + 1)) = True := by simp
theorem lt_ap2 (n j k : Nat) : (n + j < n + k) = (j < k) := by simp
/-- A contract that changes blocks of a heap holds at a longer one. -/
theorem ACall.frame2 {P : Program} {f : FuncId} {args : List V} {H H1 : List AB} {y : V} (h : ACall P f args H (one y H1)) (hl1 : H1.length = H.length) (hH : H.all (AB.low H.length) = true) (ha : args.all (V.low H.length) = true) (hy : y.low H.length = true) (T : List AB) :
    ACall P f args (H ++ T) (one y (H1 ++ T)) := by
  refine ⟨h.1, fun w G vs R hl hr => ?_⟩
  have R1 : Rel w (G.clean H.length) H := (R.trunc hH).clean
  refine (h.2 w (G.clean H.length) vs R1 hl (fun i x v hx hv => ?_)).mono ?_
  · have h1 := List.all_eq_true.1 ha x (List.mem_of_getElem? hx)
    exact (VRel.trunc (hr i x v hx hv) h1).clean
  · rintro e w' ⟨v, x, H', G2, rfl, ⟨rfl, rfl⟩, R', hv, L⟩
    have hl2 : (H ++ T).length = H'.length + T.length := by simp [hl1]
    let G3 : Gh := { S := G2.S, rho := fun i => if i < H'.length then G2.rho i else G.rho i, g := fun i => if i < H'.length then G2.g i else G.g i, role := fun b => if b < w.heap.size then G.role b else G2.role b }
    have rho_lt : ∀ i, i < H'.length → G3.rho i = G2.rho i := fun i hi => if_pos hi
    have g_lt : ∀ i, i < H'.length → G3.g i = G2.g i := fun i hi => if_pos hi
    have hlen : (H' ++ T).length = H'.length + T.length := by simp
    have cr : ∀ (x : C) (u : Value), x.low H'.length = true → CRel w' G2 H' x u → CRel w' G3 (H' ++ T) x u := by
      intro x u hl h
      induction h with
      | any v => exact .any v
      | d x v h => exact .d x v h
      | ptr i off h =>
        have := CRel.ptr (w := w') (G := G3) (H := H' ++ T) i off (by rw [hlen]; omega)
        rwa [rho_lt i h] at this
      | nilp => exact .nilp
      | dp ds b o f hcell hrel => exact .dp ds b o f hcell hrel
      | full rows a n hn h => exact .full rows a n hn h
      | own i rows a m cap hid hn h hg =>
        refine .own i rows a m cap (by rw [hlen]; omega) hn h (fun m' sz hm => ?_)
        rw [List.getElem?_append_left hid] at hm
        rw [g_lt i hid]
        exact hg m' sz hm
      | ms i off len cap h =>
        have := CRel.ms (w := w') (G := G3) (H := H' ++ T) i off len cap (by rw [hlen]; omega)
        rwa [rho_lt i h] at this
      | fn f caps arr hs _ ih =>
        simp only [C.low] at hl
        exact .fn f caps arr hs (fun i x v hx hv => ih i x v hx hv (C.lowL_get hl hx))
      | mv f x v _ ih => exact .mv f x v (ih (by simpa [C.low] using hl))
      | ma f cs arr hs ho _ ih =>
        simp only [C.low] at hl
        exact .ma f cs arr hs ho (fun i x v hx hv => ih i x v hx hv (C.lowL_get hl hx))
      | mp i h =>
        have := CRel.mp (w := w') (G := G3) (H := H' ++ T) i (by rw [hlen]; omega)
        rwa [rho_lt i h] at this
      | yd i h =>
        have := CRel.yd (w := w') (G := G3) (H := H' ++ T) i (by rw [hlen]; omega)
        rwa [rho_lt i h] at this
      | gp g => exact .gp g
      | fs n sz cs b o vs hl' hn hcell _ ih =>
        simp only [C.low] at hl
        exact .fs n sz cs b o vs hl' hn hcell (fun i x v hx hv => ih i x v hx hv (C.lowL_get hl hx))
      | vc i n a hid ha hg =>
        refine .vc i n a (by rw [hlen]; omega) ha (fun m sz cs hm => ?_)
        rw [List.getElem?_append_left hid] at hm
        rw [g_lt i hid]
        exact hg m sz cs hm
      | vs i n a cap hid ha hg =>
        refine .vs i n a cap (by rw [hlen]; omega) ha (fun m sz cs hm => ?_)
        rw [List.getElem?_append_left hid] at hm
        rw [g_lt i hid]
        exact hg m sz cs hm
      | vp i n off a hid hg =>
        refine .vp i n off a (by rw [hlen]; omega) (fun m sz cs hm => ?_)
        rw [List.getElem?_append_left hid] at hm
        rw [g_lt i hid]
        exact hg m sz cs hm
    have vr : ∀ (x : V) (u : Value), x.low H'.length = true → VRel w' G2 H' x u → VRel w' G3 (H' ++ T) x u := by
      intro x u hl h
      induction h with
      | c x v h => exact .c x v (cr x v (by simpa [V.low] using hl) h)
      | agg cs arr h =>
        simp only [V.low] at hl
        exact .agg cs arr ⟨h.1, fun i x v hx hv => ⟨cr x v (C.lowL_get hl hx) (h.2 i x v hx hv).1, (h.2 i x v hx hv).2⟩⟩
      | tup vs arr hs _ ih =>
        simp only [V.low] at hl
        exact .tup vs arr hs (fun i x v hx hv => ih i x v hx hv (V.lowL_get hl hx))
    have hrole : ∀ b k, G2.role b = some k → b < w.heap.size → k < H'.length ∧ G.role b = some k := fun b k hb hlt => by
      have h1 := L.role b hlt
      rw [hb] at h1
      simp only [Gh.clean] at h1
      cases hg : G.role b with
      | none => rw [hg] at h1; cases h1
      | some j =>
        rw [hg] at h1
        simp only at h1
        split at h1
        · cases h1; rename_i hj; exact ⟨by omega, rfl⟩
        · cases h1
    have L3 : Later w G (H ++ T) w' G3 (H' ++ T) :=
      { size := L.size
        S := L.S
        Snew := fun b o hb hr h => L.Snew b o hb (by simp [Gh.clean, hr]) h
        len := by rw [hlen, hl2]; exact Nat.le_refl _
        rho := fun i hi => by
          show (if i < H'.length then G2.rho i else G.rho i) = _
          split
          · rename_i h; exact L.rho i (by omega)
          · rfl
        grow := fun i n sz hi hx => by
          by_cases h : i < H'.length
          · rw [List.getElem?_append_left h] at hx
            obtain ⟨m, hm, hc⟩ := L.grow i n sz (by omega) hx
            refine ⟨m, by rw [List.getElem?_append_left (by omega)]; exact hm, ?_⟩
            rcases hc with hc | ⟨h1, hc⟩
            · exact .inl hc
            · exact .inr ⟨h1, (g_lt i h).trans hc⟩
          · rw [List.getElem?_append_right (by omega)] at hx
            refine ⟨n, by rw [List.getElem?_append_right (by omega), ← hl1]; exact hx, .inr ⟨rfl, if_neg h⟩⟩
        vec := fun i n sz cs hi hx => by
          by_cases h : i < H'.length
          · rw [List.getElem?_append_left h] at hx
            obtain ⟨m, sz0, cs0, hm, hc⟩ := L.vec i n sz cs (by omega) hx
            refine ⟨m, sz0, cs0, by rw [List.getElem?_append_left (by omega)]; exact hm, ?_⟩
            rcases hc with hc | ⟨h1, hc⟩
            · exact .inl hc
            · exact .inr ⟨h1, (g_lt i h).trans hc⟩
          · rw [List.getElem?_append_right (by omega)] at hx
            refine ⟨n, sz, cs, by rw [List.getElem?_append_right (by omega), ← hl1]; exact hx, .inr ⟨rfl, if_neg h⟩⟩
        role := fun b hb => if_pos hb
        frame := fun b hb hr => L.frame b hb (by simp [Gh.clean, hr])
        os := L.os
        out := L.out }
    refine ⟨v, x, H' ++ T, G3, rfl, ⟨rfl, rfl⟩, ⟨R'.sex, fun b k hb => ?_, fun i z hz => ?_⟩, vr x v (by rw [hl1]; exact hy) hv, L3⟩
    · have hb' : (if b < w.heap.size then G.role b else G2.role b) = some k := hb
      by_cases hlt : b < w.heap.size
      · exact Nat.lt_of_lt_of_le hlt L.size
      · rw [if_neg hlt] at hb'; exact R'.roleLt b k hb'
    · by_cases hi : i < H'.length
      · rw [List.getElem?_append_left hi] at hz
        have hab := R'.ab i z hz
        refine hab.ren (q := H'.length) (n := H'.length) (fun x u _ hl h => cr x u hl h) (fun x u _ hl h => vr x u hl h) (AB.low_free (Nat.le_refl _) hab.lows) hab.lows i (rho_lt i hi) (g_lt i hi) (fun b hb => ?_) (fun _ _ h => h) (fun j _ hj => ⟨rho_lt j hj, by rw [hlen]; omega⟩)
        show (if b < w.heap.size then G.role b else G2.role b) = some i
        split
        · rename_i hlt; exact (hrole b i hb hlt).2
        · exact hb
      · have hz' : (H ++ T)[i]? = some z := by rw [List.getElem?_append_right (by omega)] at hz ⊢; rw [← hl1]; exact hz
        have hi' : ¬ i < H.length := by omega
        refine (R.ab i z hz').mono R L3 (List.getElem?_eq_some_iff.1 hz').1 (fun b hb => L.frame b (R.roleLt b i hb) ?_) (fun b o hb hs => L.Snew b o (R.roleLt b i hb) ?_ hs) ?_
        · simp [Gh.clean, hb, hi']
        · simp [Gh.clean, hb, hi']
        · show (if i < H'.length then G2.g i else G.g i) = _
          rw [if_neg hi]
end Go.Abs
