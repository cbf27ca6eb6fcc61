/- A slice of a literal that is written afterwards; a result in whose cells a frozen slice lies. -/
import Derived.Test.YtliamojogmlgjaaMK
set_option linter.unusedSimpArgs false
set_option linter.unusedVariables false
namespace Go.Abs
open Go
section
variable {P : Program} {tt : Nat → Option TI} {w : World} {G : Gh} {H : List AB}
theorem yields_row_ms {t : TypeId} {n : Nat} {cs : List C} {arr : Array Value} (R : Rel w G H) (hc : CsRel w G H cs arr.toList) :
    Yields P (do pure (.slice (some (← newRow t arr)) n n)) w G H (.c (.ms H.length 0 n n)) (H ++ [.cells cs]) := by
  refine ⟨.slice (some ⟨w.heap.size, 0, none⟩) n n, w.alloc (.cells arr t), G.own H.length w.heap.size, by simp [newRow], ?_, R.alloc_cells t hc, Later.alloc_own R _ _⟩
  have := CRel.ms (w := w.alloc (.cells arr t)) (G := G.own H.length w.heap.size) (H := H ++ [.cells cs]) H.length 0 n n (by simp)
  simp only [Gh.own, upd_same] at this
  exact .c _ _ this
theorem yields_buildSlice_ms (T : TTok P tt) {t n e : Nat} {i i' : TI} (ht : tt t = some i) (hd : i.desc = .slice e) (he : tt e = some i') {ps : Array (Nat × Value)} {qs : List (Nat × V)} {cs : List C}
    (R : Rel w G H) (hq : PsRel w G H qs ps.toList) (hf : fillC (fun k => some (k * i'.size, i'.size)) (zc i'.zero.cs n) qs = some cs) (h0 : 0 < n * i'.size) (hlim : n * i'.size ≤ 2 ^ 24) :
    Yields P (Instr.buildSlice t n ps) w G H (.c (.ms H.length 0 n n)) (H ++ [.cells cs]) := by
  obtain ⟨z, hz, h1, h2, h3⟩ := T.run_zero he
  have hz2 := (zeroCs_rel (w := w) (G := G) (H := H) h2)
  have hzs : z.cells.size = i'.size := by have := hz2.1; simp at this; omega
  have hc0 : CsRel w G H (zc i'.zero.cs n) ((Array.range (n * i'.size)).map (fun i => z.cells[i % z.cells.size]!)).toList := by
    rw [← hzs, rangeMap_toList]
    exact zc_rel hz2 n
  obtain ⟨arr', h4, h5, _⟩ := fill_rel hq hc0 hf
  obtain ⟨v, w', G', h6, h7⟩ := yields_row_ms (P := P) (t := e) (n := n) R h5
  refine ⟨v, w', G', ?_, h7⟩
  have h0' : ¬ n * i'.size = 0 := by omega
  simp only [Instr.buildSlice, Sem.run_bind, T.run_at ht hd rfl, Result.andThen_ok, T.run_sizeOf he, gt_iff_lt, Nat.not_lt.2 hlim, if_false, h0', Sem.run_ite, hz, Sem.run_pure, h4]
  simpa using h6
end
section
variable {X : Tx} {r : Option Nat} {nb nt : Nat} {s : St} {all : Array Oper} {Q : St → Prop} {o : Oper} {os : List Oper}
/-- A literal whose cells are written afterwards. -/
theorem aops_buildMs {t n e : Nat} {i i' : TI} {ps : Array (Nat × Operand)} {cs : List C} (ho : o.op = .buildSlice t n ps) (hg : guardOf all s.get o = some true) (ht : X.tt t = some i) (hd : i.desc = .slice e) (he : X.tt e = some i')
    (hf : fillC (fun k => some (k * i'.size, i'.size)) (zc i'.zero.cs n) (ps.toList.map fun p => (p.1, s.ev p.2)) = some cs) (h0 : 0 < n * i'.size) (hlim : n * i'.size ≤ 2 ^ 24)
    (k : aW X r nb nt all os Q (s.put o.dst (.c (.ms s.heap.length 0 n n)) (s.heap ++ [.cells cs]))) : AOps (X.cx r nb nt) all (o :: os) Q s := by
  simp only [AOps, hg]
  have h1 : OpAt X.P r o s.heap s.ev fun x H' => x = .c (.ms s.heap.length 0 n n) ∧ H' = s.heap ++ [.cells cs] :=
    OpAt.of_value (s := fun ρ => Instr.buildSlice t n (ps.map fun (i, x) => (i, ρ x))) (by simp [ho]) (fun ρ => by simp [execOp, ho]) (fun w G a R hE => by
      have hp := ps_rel (E := s.ev) (a := a) (ps := ps) (fun x hx => hE x (by simpa [ho, Op.operands] using hx))
      exact yields_buildSlice_ms X.ok ht hd he R hp hf h0 hlim)
  exact h1.mono fun x H2 ⟨e1, e2⟩ => by subst e1; subst e2; exact aW_sound _ _ k
end
theorem ACall.fzagg {P : Program} {f : FuncId} {args : List V} {H : List AB} {ys : List C} (h : ACall P f args H (fun x H' => ∃ id cs ds xs, x = .agg xs ∧ H'[id]? = some (.cells cs) ∧ toDs cs = some ds ∧ xs.length = ys.length ∧ ∀ (i : Nat) (x y : C), xs[i]? = some x → ys[i]? = some y → FzC id ds x y)) : ACall P f args H (fun x _ => x = .agg ys) :=
  ⟨h.1, fun w G vs R hl hr => (h.2 w G vs R hl hr).mono fun _ w' ⟨v, x, H', G', a, ⟨id, cs, ds, xs, e, h1, h2, h3, h4⟩, c, d, e'⟩ => by
    subst e
    obtain ⟨R', L, f⟩ := c.freeze h1 h2
    refine ⟨v, _, _, _, a, rfl, R', ?_, e'.trans L⟩
    cases d with
    | agg _ arr hc =>
      refine .agg _ _ ⟨h3.symm.trans hc.1, fun i y u hy hu => ?_⟩
      have hlt : i < xs.length := h3 ▸ (List.getElem?_eq_some_iff.1 hy).1
      obtain ⟨g1, g2⟩ := hc.2 i _ u (List.getElem?_eq_getElem hlt) hu
      exact ⟨(h4 i _ y (List.getElem?_eq_getElem hlt) hy).rel L f g1, g2⟩⟩
/-- The cells of a block, told more weakly. -/
theorem ent_cells {X : Cx} {s : St} (k : Nat) {cs cs' : List C} (hk : s.heap[k]? = some (.cells cs)) (h : WkCs cs cs') : Ent X s { slots := s.slots, heap := s.heap.set k (.cells cs'), marks := s.marks } := fun bs w G a hR => by
  cases hR.rel.ab k _ hk with
  | cells _ arr t hb hr hrole hS =>
  have he : w.putObj (G.rho k) (.cells arr t (0, 0)) = w := put_self hb
  obtain ⟨R2, L2⟩ := hR.rel.put_cells (cs' := cs') (arr' := arr) hk hb (h.rel hr)
  rw [he] at R2 L2
  refine ⟨G,
    { rel := R2
      later := hR.later.trans L2
      base := hR.base
      size := hR.size
      slots := fun i => (hR.slots i).mono L2
      defers := ?_
      marks := fun i hi => Nat.lt_of_lt_of_le (hR.marks i hi) L2.len }⟩
  obtain ⟨hs, hh, e⟩ := hR.defers
  refine ⟨hs, hh.mono L2, ?_⟩
  rw [e]
end Go.Abs
