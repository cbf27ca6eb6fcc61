/- A slice that append made, handed through a function: a contract at a heap of blocks that are gone, but for the growing one, holds at every heap with that block. -/
import Derived.Test.YteamgbndnfjoaaaDoorMK
set_option linter.unusedSimpArgs false
set_option linter.unusedVariables false
namespace Go.Abs
open Go
def C.po (p : Nat → Bool) : C → Bool
  | .d _ => true
  | .own id _ => p id
  | _ => false
def V.po (p : Nat → Bool) : V → Bool
  | .c x => x.po p
  | .agg cs => cs.all (C.po p)
  | .tup _ => false
theorem C.po_tr {p : Nat → Bool} {w : World} {G G' : Gh} {H H' : List AB} (hS : ∀ b o, G.S b o → G'.S b o) (hl : H.length = H'.length)
    (ho : ∀ id, p id = true → ∀ m sz, H'[id]? = some (.grow m sz) → H[id]? = some (.grow m sz) ∧ G'.g id = G.g id) {x : C} {v : Value} (hx : x.po p = true) (h : CRel w G H x v) : CRel w G' H' x v := by
  cases h with
  | d x v h => exact .d x v (DRel.mono (fun b o h => ⟨hS b o h, rfl⟩) h)
  | own id rows a n cap hid hn h hg =>
    refine .own id rows a n cap (hl ▸ hid) hn (DRel.mono (fun b o h => ⟨hS b o h, rfl⟩) h) (fun m sz hm => ?_)
    obtain ⟨h1, h2⟩ := ho id hx m sz hm
    rw [h2]
    exact hg m sz h1
  | _ => cases hx
theorem V.po_tr {p : Nat → Bool} {w : World} {G G' : Gh} {H H' : List AB} (hS : ∀ b o, G.S b o → G'.S b o) (hl : H.length = H'.length)
    (ho : ∀ id, p id = true → ∀ m sz, H'[id]? = some (.grow m sz) → H[id]? = some (.grow m sz) ∧ G'.g id = G.g id) {x : V} {v : Value} (hx : x.po p = true) (h : VRel w G H x v) : VRel w G' H' x v := by
  cases h with
  | c x v h => exact .c x v (C.po_tr hS hl ho hx h)
  | agg cs arr h =>
    refine .agg cs arr ⟨h.1, fun i x v hi hv => ⟨C.po_tr hS hl ho (List.all_eq_true.1 hx x (List.mem_of_getElem? hi)) (h.2 i x v hi hv).1, (h.2 i x v hi hv).2⟩⟩
  | tup => cases hx
/-- The heap of which only one growing block is known. -/
def goneH (k n sz len : Nat) : List AB := (List.replicate len AB.gone).set k (.grow n sz)
theorem goneH_len (k n sz len : Nat) : (goneH k n sz len).length = len := by simp [goneH]
theorem goneH_at {k n sz len : Nat} (h : k < len) : (goneH k n sz len)[k]? = some (.grow n sz) := by simp [goneH, h]
theorem goneH_ne {k n sz len i : Nat} (h : i ≠ k) {x : AB} (hx : (goneH k n sz len)[i]? = some x) : x = .gone := by
  rw [goneH, List.getElem?_set_ne (Ne.symm h), List.getElem?_replicate] at hx
  split at hx <;> simp_all
theorem goneH_low (k n sz len l : Nat) : (goneH k n sz len).all (AB.low l) = true := by
  rw [List.all_eq_true]
  intro x hx
  obtain ⟨i, hi⟩ := List.mem_iff_getElem?.1 hx
  by_cases e : i = k
  · subst e
    have hlt : i < len := by have := (List.getElem?_eq_some_iff.1 hi).1; rwa [goneH_len] at this
    rw [goneH_at hlt] at hi; cases hi; rfl
  · rw [goneH_ne e hi]; rfl
theorem ACall.lift {P : Program} {f : FuncId} {args : List V} {y : V} {H : List AB} {k n sz : Nat} (hk : H[k]? = some (.grow n sz)) (ha : args.all (V.po (· == k)) = true) (hy : y.po (· == k) = true)
    (h : ACall P f args (goneH k n sz H.length) (one y (goneH k n sz H.length))) : ACall P f args H (one y H) := by
  have hkl := (List.getElem?_eq_some_iff.1 hk).1
  refine ⟨h.1, fun w G vs R hl hrel => ?_⟩
  let G0 : Gh := { G with role := fun b => if G.role b = some k then some k else none }
  have hno : ∀ b, G.role b ≠ some k → G0.role b = none := fun b hb => if_neg hb
  have R0 : Rel w G0 (goneH k n sz H.length) := by
    refine ⟨R.sex, fun b id hb => ?_, fun id x hx => ?_⟩
    · by_cases e : G.role b = some k
      · exact R.roleLt b k e
      · rw [hno b e] at hb; cases hb
    · by_cases e : id = k
      · subst e
        rw [goneH_at hkl] at hx
        cases hx
        cases R.ab id _ hk with
        | grow n sz a cap hg hcap h hnil =>
          refine .grow n sz a cap hg hcap (fun x hx hlt => ?_) hnil
          obtain ⟨b, o, h1, h2, h3, h4⟩ := h x hx hlt
          exact ⟨b, o, h1, if_pos h2, h3, h4⟩
      · rw [goneH_ne e hx]; exact .gone
  refine (h.2 w G0 vs R0 hl (fun i x v hx hv => ?_)).mono ?_
  · refine V.po_tr (G := G) (G' := G0) (p := (· == k)) (fun _ _ h => h) (goneH_len _ _ _ _).symm (fun id hid m sz' hm => ?_) (List.all_eq_true.1 ha x (List.mem_of_getElem? hx)) (hrel i x v hx hv)
    have hid : id = k := by simpa using hid
    subst hid
    rw [goneH_at hkl] at hm
    exact ⟨hk.trans hm, rfl⟩
  · rintro e w' ⟨v, x, H', G2, rfl, ⟨rfl, rfl⟩, R', hv, L⟩
    have hgk : G2.g k = G.g k := by
      obtain ⟨m, h1, h2⟩ := L.grow k n sz (by rw [goneH_len]; exact hkl) (goneH_at hkl)
      rw [goneH_at hkl] at h1
      cases h1
      rcases h2 with h2 | h2
      · omega
      · exact h2.2
    let G3 : Gh := { S := G2.S, rho := G.rho, g := G.g, role := fun b => if b < w.heap.size then G.role b else none }
    have r0 : ∀ b, G.role b = none → G0.role b = none := fun b hb => hno b (by rw [hb]; exact fun h => by cases h)
    have Lr : Later w G H w' G3 H :=
      { size := L.size
        S := L.S
        Snew := fun b o hb hr h => L.Snew b o hb (r0 b hr) h
        len := Nat.le_refl _
        rho := fun _ _ => rfl
        grow := fun id n sz _ h => ⟨n, h, .inr ⟨rfl, rfl⟩⟩
        role := fun b hb => by simp [G3, hb]
        frame := fun b hb hr => L.frame b hb (r0 b hr)
        os := L.os
        out := L.out }
    refine ⟨v, x, H, G3, rfl, ⟨rfl, rfl⟩, ⟨R'.sex, fun b id hb => ?_, fun id z hz => ?_⟩, ?_, Lr⟩
    · by_cases h : b < w.heap.size
      · exact Nat.lt_of_lt_of_le h L.size
      · simp [G3, h] at hb
    · by_cases e : id = k
      · subst e
        rw [hk] at hz
        cases hz
        cases R'.ab id _ (goneH_at hkl) with
        | grow n sz a cap hg hcap h hnil =>
          cases R.ab id _ hk with
          | grow n sz a0 cap0 hg0 hcap0 h0 hnil0 =>
            rw [hgk, hg0] at hg
            cases hg
            refine .grow n sz a cap hg0 hcap (fun x hx hlt => ?_) hnil
            obtain ⟨b, o, h1, h2, h3, h4⟩ := h x hx hlt
            obtain ⟨b', o', h1', h2', _, _⟩ := h0 x hx hlt
            rw [h1] at h1'
            cases h1'
            exact ⟨b, o, h1, (by show (if b < w.heap.size then G.role b else none) = some id; rw [if_pos (R.roleLt b id h2')]; exact h2'), h3, h4⟩
      · refine ABRel.mono R Lr (List.getElem?_eq_some_iff.1 hz).1 (R.ab id z hz) (fun b hb => L.frame b (R.roleLt b id hb) (hno b ?_)) (fun b o hb h => L.Snew b o (R.roleLt b id hb) (hno b ?_) h) rfl
        · rw [hb]; exact fun h => e (Option.some.inj h)
        · rw [hb]; exact fun h => e (Option.some.inj h)
    · refine V.po_tr (G := G2) (G' := G3) (p := (· == k)) (fun _ _ h => h) (goneH_len _ _ _ _) (fun id hid m sz' hm => ?_) hy hv
      have hid : id = k := by simpa using hid
      subst hid
      rw [hk] at hm
      exact ⟨(goneH_at hkl).trans hm, hgk.symm⟩
section
variable {X : Tx} {r : Option Nat} {nb nt : Nat} {m3 : Bool} {n0 N0 : Nat} {all : Array Oper} {Q : St → Prop} {s : St} {o : Oper} {os : List Oper} {k hc : Nat} {acc : List Note}
/-- A call that hands on a growing slice, in a drawn region. -/
theorem de_own {g : FuncId} {args args' : List V} {y : V} (j n sz : Nat) (h : ∀ H : List AB, H[j]? = some (.grow n sz) → ACall X.P g args' H (one y H)) (hj : s.heap[j]? = some (.grow n sz)) (hg : guardOf all s.get o = some true) (hcl : calleeOf s.ev o = some (g, args)) (hw : WkVs args args')
    (nn : dE X r nb nt m3 n0 N0 all (k + 1) hc os (addN m3 n0 k y .no (.blk j) acc) Q (s.put o.dst y s.heap)) : dS X r nb nt m3 n0 N0 all k hc (o :: os) acc Q s :=
  ⟨true, y, .no, .blk j, hg, by
    simp only [if_true]
    intro H2 hs
    have hs : H2[j]? = s.heap[j]? := hs
    exact opAt_of_callee hcl ((h H2 (hs.trans hj)).weak hw), callee_kind hcl _ _, dE_sound os _ hc _ _ nn⟩
end
end Go.Abs
