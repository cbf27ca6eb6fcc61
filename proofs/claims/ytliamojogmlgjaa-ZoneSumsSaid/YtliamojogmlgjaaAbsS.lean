/- A slice in a cell whose block is frozen. -/
import Derived.Test.YtliamojogmlgjaaAbsL
set_option linter.unusedSimpArgs false
set_option linter.unusedVariables false
namespace Go.Abs
open Go
theorem ent_fzcell {X : Cx} {s : St} (id k : Nat) {bs cs cs' : List C} {ds : List D} (hid : s.heap[id]? = some (.cells bs)) (hd : toDs bs = some ds) (hne : id ≠ k) (hk : s.heap[k]? = some (.cells cs)) (hl : cs.length = cs'.length)
    (h : ∀ (i : Nat) (x y : C), cs[i]? = some x → cs'[i]? = some y → FzC id ds x y) : Ent X s { slots := s.slots, heap := (s.heap.set id .gone).set k (.cells cs'), marks := s.marks } := fun b0 w G a hR => by
  obtain ⟨R1, L1, f⟩ := hR.rel.freeze hid hd
  have hk1 : (s.heap.set id .gone)[k]? = some (.cells cs) := by rw [List.getElem?_set_ne hne]; exact hk
  cases hR.rel.ab k _ hk with
  | cells _ arr t hb hr hrole hS =>
  have hb1 : w.heap[(G.thaw (G.rho id) ds.length).rho k]? = some (.cells arr t (0, 0)) := hb
  have hr2 : CsRel w (G.thaw (G.rho id) ds.length) (s.heap.set id .gone) cs' arr.toList := ⟨hl.symm.trans hr.1, fun i y v hy hv => by
    have hlt : i < cs.length := hl ▸ (List.getElem?_eq_some_iff.1 hy).1
    obtain ⟨g1, g2⟩ := hr.2 i _ v (List.getElem?_eq_getElem hlt) hv
    exact ⟨(h i _ y (List.getElem?_eq_getElem hlt) hy).rel L1 f g1, g2⟩⟩
  have he : w.putObj ((G.thaw (G.rho id) ds.length).rho k) (.cells arr t (0, 0)) = w := put_self hb1
  obtain ⟨R2, L2⟩ := R1.put_cells (cs' := cs') (arr' := arr) hk1 hb1 hr2
  rw [he] at R2 L2
  have L := L1.trans L2
  refine ⟨_,
    { rel := R2
      later := hR.later.trans L
      base := hR.base
      size := hR.size
      slots := fun i => (hR.slots i).mono L
      defers := ?_
      marks := fun i hi => Nat.lt_of_lt_of_le (hR.marks i hi) L.len }⟩
  obtain ⟨hs, hh, e⟩ := hR.defers
  refine ⟨hs, hh.mono L, ?_⟩
  rw [e]
  congr 1
end Go.Abs
