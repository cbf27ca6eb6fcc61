/- From a contract at a heap of package-level variables to what a law's row says. -/
import Derived.Test.YteamgbndnfjoaaaDoorAbsJ
import Derived.Deep.DeepHandedRow
import Derived.LaidLaws
set_option linter.unusedSimpArgs false
set_option linter.unusedVariables false
namespace Go.Abs
open Go
section
variable {H : Type} {enc : TypeId × Value → H}
/-- A law's call at a heap that tells of package-level variables. -/
theorem law_calls_at {H0 : List AB} {X : Tx} {f : FuncId} {fn : Func} {s : ChangeSpec} {apart fresh handsOn again : Bool} {W : World} {base n : Nat} {args : Array Value} {ds gs : List (DataW H)} {before : List MemPlace} {tb : TypeId}
    (hl : laidOutB X.P = true) (hm : mapsRowed X.P = true) (hz : ∀ t e, t < X.P.types.size → X.P.underlying t = some (.slice e) → 0 < X.P.cellsOf e) (hts : fn.params.toList.all (fun t => decide (t < X.P.types.size)) = true)
    (hr : fn.resultTypes = #[tb]) (htb : X.P.underlying tb = some .bool) (hsv : s.vars = []) (hfn : ∀ ds : List (DataW H), fn.params.toList.length = ds.length → s.fn H ds = { results := [.lit (.bool true)], args := ds })
    (hp : fn.params.toList.all (plainT X.P n) = true)
    (hval : ∀ (j : Nat) t v, fn.params[j]? = some t → args[j]? = some v → Value.okWide X.P W .any base t v)
    (hW : DataW.Whole enc X.P fn.params.toList s.vars apart W args.toList ds gs before)
    (hw : (DataW.weightsEach X.P (fn.params.toList ++ s.plain.varTypes X.P) (ds ++ gs)).all (· ≤ reachBytes) = true)
    (hR : Rel W (G0 W) H0) (h : ∀ xs : List V, ArgsT X.P n fn.params.toList xs → ACall X.P f xs H0 (one (B true) H0)) :
    Calls X.P f args W fun e W' => ∃ v, e = .returned v ∧ s.post enc X.P fn apart fresh handsOn again W args v W' := by
  obtain ⟨p, q, hA, hV, e, hfz, hnd⟩ := id hW
  have hlen : ∀ {ts : List TypeId} {vs : List Value} {ds : List (DataW H)} {ps : List MemPlace}, DataW.TrodAll enc X.P W 0 (fun _ => true) true ts vs ds ps → ts.length = ds.length := by
    intro ts
    induction ts with
    | nil => intro vs ds ps h; cases vs <;> cases ds <;> simp [DataW.TrodAll] at h ⊢
    | cons t ts ih =>
      intro vs ds ps h
      cases vs with
      | nil => simp [DataW.TrodAll] at h
      | cons v vs =>
        cases ds with
        | nil => simp [DataW.TrodAll] at h
        | cons d ds => obtain ⟨a, b, h1, h2, _⟩ := h; simp [ih h2]
  have hgs : gs = [] := by
    rw [hsv] at hV
    cases gs with
    | nil => rfl
    | cons => simp [DataW.TrodVars] at hV
  subst hgs
  have hws : (DataW.weightsEach X.P fn.params.toList ds).all (· ≤ reachBytes) = true := by
    have key : ∀ (ts ts' : List TypeId) (ds ds' : List (DataW H)), ts.length = ds.length → DataW.weightsEach X.P (ts ++ ts') (ds ++ ds') = DataW.weightsEach X.P ts ds ++ DataW.weightsEach X.P ts' ds' := by
      intro ts
      induction ts with
      | nil => intro ts' ds ds' hl; have : ds = [] := by simpa using hl.symm
               subst this; simp [DataW.weightsEach]
      | cons t ts ih =>
        intro ts' ds ds' hl
        cases ds with
        | nil => simp at hl
        | cons d ds => simp only [List.cons_append, DataW.weightsEach, ih ts' ds ds' (by simpa using hl), List.append_assoc]
    rw [key _ _ _ _ (hlen hA), List.all_append, Bool.and_eq_true] at hw
    exact hw.1
  obtain ⟨xs, a1, a2, a3⟩ := args_rel (w := W) hp (fun j t v ht hv => hval j t v (by simpa using ht) (by simpa using hv)) hA hws
  have L0 : Later W (G0 W) [] W (G0 W) H0 :=
    { size := Nat.le_refl _, S := fun _ _ h => ⟨h, rfl⟩, Snew := fun _ _ _ _ h => h, len := Nat.zero_le _, rho := fun _ h => (by simp at h), grow := fun _ _ _ h => (by simp at h), role := fun _ _ => rfl, frame := fun _ _ _ => rfl, os := rfl, out := rfl }
  have hc := (h xs a1).2 W (G0 W) args hR a2 (fun i x v hx hv => (a3 i x v hx hv).mono L0)
  have hc2 : Calls X.P f args W _ := callsIn_wide.1 hc
  refine hc2.mono ?_
  rintro e W' ⟨v, x, H', G', rfl, ⟨rfl, rfl⟩, R', hv, L⟩
  have hvb : v = .bool true := by cases hv with | c _ _ h => cases h with | d _ _ h => cases h; rfl
  subst hvb
  exact ⟨_, rfl, law_post hl hm hz (fun t ht => by simpa using List.all_eq_true.1 hts t ht) hr htb hsv (by rw [List.append_nil]; exact hfn ds (hlen hA)) hW L.os L.out (fun b hb => L.frame b hb rfl)⟩
end
end Go.Abs
