/- The walk with some drawn regions left to the prover (those whose numbers are in a given list). -/
import Derived.Test.YtklmpopomokglaaME
import Derived.Test.YtklmpopomokglaaMG
import Derived.Test.YtklmpopomokglaaAbsY
set_option linter.unusedSimpArgs false
set_option linter.unusedVariables false
namespace Go.Abs
open Go
/-- Its regions are as the walk wants them; of those in the list nothing is asked. -/
def okZ (bad : List Nat) (nt : Nat) : Code → Bool
  | .seq x y => okZ bad nt x && okZ bad nt y
  | .block _ c => okZ bad nt c
  | .loop c => okZ bad nt c
  | .scope c => okZ bad nt c
  | .cond _ x y => okZ bad nt x && okZ bad nt y
  | .region _ ops false => dstsB nt ops.toList
  | .region id ops true => bad.contains id || (dstsB nt ops.toList && conflB (loudL ops.toList) ops)
  | .rangeFunc _ _ a b => okZ bad nt a && okZ bad nt b
  | _ => true
mutual
def goZ (bad : List Nat) (X : Tx) (r : Option Nat) (nb nt : Nat) (c : Code) (Q : Exit → St → Prop) (s : St) : Prop :=
  match c with
  | .skip => Q .normal s
  | .label _ => Q .normal s
  | .exit id => Q (.exit id) s
  | .ret => Q .ret s
  | .seq x y => goZ bad X r nb nt x (thenQ (contZ bad X r nb nt y Q) Q) s
  | .block id c => goZ bad X r nb nt c (blockQ id Q) s
  | .scope c => goZ bad X r nb nt c (noGoto Q) s
  | .cond c x y => match s.ev c with
    | .c (.d (.bool t)) => condP t (armZ bad X r nb nt x Q s) (armZ bad X r nb nt y Q s)
    | _ => False
  | .region _ ops false => aW X r nb nt ops ops.toList (Q .normal) s
  | .region id ops true => match bad.contains id with
    | true => AWP (X.cx r nb nt) (.region id ops true) Q s
    | false => dW X r nb nt ops (loudL ops.toList) 0 ops.toList (Q .normal) s
  | c => AWP (X.cx r nb nt) c Q s
def contZ (bad : List Nat) (X : Tx) (r : Option Nat) (nb nt : Nat) (c : Code) (Q : Exit → St → Prop) (s : St) : Prop := goZ bad X r nb nt c Q s
def armZ (bad : List Nat) (X : Tx) (r : Option Nat) (nb nt : Nat) (c : Code) (Q : Exit → St → Prop) (s : St) : Prop := goZ bad X r nb nt c Q s
end
theorem contZ_at (bad : List Nat) (X : Tx) (r : Option Nat) (nb nt : Nat) (c : Code) (Q : Exit → St → Prop) (s : St) : contZ bad X r nb nt c Q s = goZ bad X r nb nt c Q s := by rw [contZ]
theorem armZ_at (bad : List Nat) (X : Tx) (r : Option Nat) (nb nt : Nat) (c : Code) (Q : Exit → St → Prop) (s : St) : armZ bad X r nb nt c Q s = goZ bad X r nb nt c Q s := by rw [armZ]
theorem goZ_sound {bad : List Nat} {X : Tx} {r : Option Nat} {nb nt : Nat} (hm : X.P.follows .mixedOrders = true) (c : Code) : okZ bad nt c = true → ∀ {Q : Exit → St → Prop} {s : St}, goZ bad X r nb nt c Q s → AWP (X.cx r nb nt) c Q s := by
  induction c with
  | skip => intro _ Q s h; rw [goZ] at h; exact awp_skip h
  | label l => intro _ Q s h; rw [goZ] at h; exact awp_label h
  | exit id => intro _ Q s h; rw [goZ] at h; exact awp_exit h
  | ret => intro _ Q s h; rw [goZ] at h; exact awp_ret h
  | seq x y ihx ihy =>
    intro hok Q s h
    simp only [okZ, Bool.and_eq_true] at hok
    rw [goZ] at h
    exact awp_seq ((ihx hok.1 h).mono (thenQ_mono fun s h => ihy hok.2 (by rw [contZ_at] at h; exact h)))
  | block id c ih => intro hok Q s h; rw [goZ] at h; exact awp_block (ih hok h)
  | scope c ih => intro hok Q s h; rw [goZ] at h; exact awp_scope (ih hok h)
  | cond c x y ihx ihy =>
    intro hok Q s h
    simp only [okZ, Bool.and_eq_true] at hok
    rw [goZ] at h
    split at h
    · rename_i t hc
      rw [condP, armZ_at, armZ_at] at h
      exact awp_cond hc (fun e => ihx hok.1 (h.1 e)) (fun e => ihy hok.2 (h.2 e))
    · exact h.elim
  | region id ops d =>
    intro hok Q s h
    cases d with
    | false => rw [goZ] at h; exact awp_region (X := X.cx r nb nt) hok (aW_sound _ _ h)
    | true =>
      rw [goZ] at h
      split at h
      · exact h
      · rename_i hb
        simp only [okZ, hb, Bool.false_or, Bool.and_eq_true] at hok
        exact awp_region_drawn (X := X.cx r nb nt) (loudL ops.toList) hm hok.1 hok.2 (dW_sound _ _ _ (fun j o ho => by rw [Nat.zero_add]; exact loudL_bit _ j o ho) h)
  | _ => intro _ Q s h; unfold goZ at h; exact h
theorem acall_ofZ {bad : List Nat} {X : Tx} {f : FuncId} {fn : Func} {c : Code} {args : List V} {H : List AB} {nt : Nat} {rs : List ResultVar} {post : V → List AB → Prop} (hf : X.P.funcs[f]? = some fn) (hb : fn.body = some c) (hn0 : notNum fn = true)
    (hnt : args.length + (fn.ntmps - args.length) = nt) (hrs : fn.results.toList = rs) (hm : X.P.follows .mixedOrders = true) (hok : okZ bad nt c = true)
    (h : goZ bad X none H.length nt c (retG X rs post) { slots := argS 0 args, heap := H, marks := [] }) : ACall X.P f args H post := by
  subst hrs
  exact acall_of_awp (X := X) hf hb hn0 hnt ((goZ_sound hm c hok h).mono retG_sound)
theorem pure_wkZ {bad : List Nat} {X : Tx} {f : FuncId} {fn : Func} {c : Code} {args : List V} {r : V} {nt : Nat} {rs : List ResultVar} (hf : X.P.funcs[f]? = some fn) (hb : fn.body = some c) (hn0 : notNum fn = true)
    (hnt : args.length + (fn.ntmps - args.length) = nt) (hrs : fn.results.toList = rs) (hm : X.P.follows .mixedOrders = true) (hok : okZ bad nt c = true) (ha : args.all (V.low 0) = true) (hr : r.low 0 = true)
    (h : (∀ x ∈ args, FitV x) → goZ bad X none 0 nt c (retG X rs (fun x _ => WkV x r)) { slots := argS 0 args, heap := [], marks := [] }) : Pure X.P f args r :=
  ⟨ACall.wkpost (ACall.fit (callFunc_runs hf hb hn0) (fun hfit => acall_ofZ (bad := bad) (X := X) hf hb hn0 hnt hrs hm hok (h hfit))), ha, hr⟩
theorem goZ_t {bad : List Nat} {X : Tx} {r : Option Nat} {nb nt : Nat} {c : Code} {Q : Exit → St → Prop} {s : St} (b : Prop) : condP true (armZ bad X r nb nt c Q s) b = goZ bad X r nb nt c Q s := by rw [condP_t, armZ_at]
theorem goZ_f {bad : List Nat} {X : Tx} {r : Option Nat} {nb nt : Nat} {c : Code} {Q : Exit → St → Prop} {s : St} (a : Prop) : condP false a (armZ bad X r nb nt c Q s) = goZ bad X r nb nt c Q s := by rw [condP_f, armZ_at]
theorem goZ_if {bad : List Nat} {X : Tx} {r : Option Nat} {nb nt : Nat} {c c' : Code} {Q : Exit → St → Prop} {s : St} {t : Bool} (h1 : t = true → goZ bad X r nb nt c Q s) (h2 : t = false → goZ bad X r nb nt c' Q s) : condP t (armZ bad X r nb nt c Q s) (armZ bad X r nb nt c' Q s) :=
  ⟨fun h => by rw [armZ_at]; exact h1 h, fun h => by rw [armZ_at]; exact h2 h⟩
theorem yc_ofZ {bad : List Nat} {X : Tx} {id : Nat} {H : List AB} {r : LR} {x : V} {post : V → List AB → Prop} (hm : X.P.follows .mixedOrders = true) (hid : H[id]? = some (.lp r)) (hps : r.ps.size = 1) (hnt : r.ps.toList.all (fun p => decide (p < r.nt)) = true) (hoka : okZ bad r.nt r.assign = true) (hokb : okZ bad r.nt r.body = true)
    (h : ∀ l, goZ bad X (some l) H.length r.nt r.assign (thenQ (fun t => ∃ t', busyH id t = some t' ∧ goZ bad X (some l) H.length r.nt r.body (fun e u => ∃ u', Ent (X.cx (some l) H.length r.nt) u u' ∧ roundQ id post e u') t') (fun _ _ => False)) { slots := putPs r.ps.toList [x] r.slots, heap := H, marks := [] }) :
    YC X.P id H x post := by
  intro ro o E xo as ts ho hx hv
  have hsz : as.size = r.ps.size := by rw [hps, ← Array.length_toList, ← List.length_map (as := as.toList) E, hv]; rfl
  refine opAt_yield (tt := X.tt) ho hx hid hsz hnt (fun l => ?_)
  rw [hv]
  refine (goZ_sound (X := X) (r := some l) (nb := H.length) hm r.assign hoka (h l)).mono ?_
  refine thenQ_mono fun t ht => ?_
  obtain ⟨t', h1, h2⟩ := ht
  exact ⟨t', h1, AWP.post (goZ_sound (X := X) (r := some l) (nb := H.length) hm r.body hokb h2)⟩
/-- A region left by the walk, run by the executor. -/
theorem awp_regX {X : Tx} {r : Option Nat} {nb nt id : Nat} {ops : Array Oper} {Q : Exit → St → Prop} {s s' : St} (n : Nat) (hm : X.P.follows .mixedOrders = true)
    (h : xC X [] [] n true nt [] (.region id ops true) s = some (.normal, s')) (hok : okX nt (.region id ops true) = true) (hq : Q .normal s') : AWP (X.cx r nb nt) (.region id ops true) Q s :=
  ((xall (L := []) (KT := []) hm rfl n).1 _ s _ s' true r nb nt [] h hok (fun e => by cases e)).mono (fun e t ⟨e1, e2⟩ => by subst e1; subst e2; exact hq)
/-- The same, for two values read and two stores. -/
theorem awp_regS {X : Tx} {r : Option Nat} {nb nt id : Nat} {ops : Array Oper} {Q : Exit → St → Prop} {s : St} (n d1 : Nat) (v : V) (d2 : Nat) (w : V) (b1 : Nat) (c1 : List C) (b2 : Nat) (c2 : List C) (hm : X.P.follows .mixedOrders = true)
    (h : xC X [] [] n true nt [] (.region id ops true) s = some (.normal, { slots := setS (setS s.slots d1 v) d2 w, heap := (s.heap.set b1 (.cells c1)).set b2 (.cells c2), marks := s.marks })) (hok : okX nt (.region id ops true) = true)
    (hq : Q .normal { slots := setS (setS s.slots d1 v) d2 w, heap := (s.heap.set b1 (.cells c1)).set b2 (.cells c2), marks := s.marks }) : AWP (X.cx r nb nt) (.region id ops true) Q s :=
  awp_regX n hm h hok hq
/-- The same, with a value besides. -/
theorem awp_regS3 {X : Tx} {r : Option Nat} {nb nt id : Nat} {ops : Array Oper} {Q : Exit → St → Prop} {s : St} (n d1 : Nat) (v : V) (d2 : Nat) (w : V) (d3 : Nat) (y : V) (b1 : Nat) (c1 : List C) (b2 : Nat) (c2 : List C) (hm : X.P.follows .mixedOrders = true)
    (h : xC X [] [] n true nt [] (.region id ops true) s = some (.normal, { slots := setS (setS (setS s.slots d1 v) d2 w) d3 y, heap := (s.heap.set b1 (.cells c1)).set b2 (.cells c2), marks := s.marks })) (hok : okX nt (.region id ops true) = true)
    (hq : Q .normal { slots := setS (setS (setS s.slots d1 v) d2 w) d3 y, heap := (s.heap.set b1 (.cells c1)).set b2 (.cells c2), marks := s.marks }) : AWP (X.cx r nb nt) (.region id ops true) Q s :=
  awp_regX n hm h hok hq
end Go.Abs
