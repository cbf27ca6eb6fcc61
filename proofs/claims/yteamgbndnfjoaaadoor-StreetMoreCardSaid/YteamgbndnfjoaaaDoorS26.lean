/- A street made of a slice that append made. -/
import Derived.Test.YteamgbndnfjoaaaDoorS25
import Derived.Test.YteamgbndnfjoaaaDoorAbsO
set_option linter.unusedSimpArgs false
set_option linter.unusedVariables false
set_option maxRecDepth 100000
namespace Go.Proofs.YteamgbndnfjoaaaDoor
open Go Go.Abs Go.Proofs
def kp37 : List (Nat × List Nat) := [(0, [1, 2, 4]), (1, [4])]
theorem lk37 : lookK kp37 0 = some [1, 2, 4] ∧ lookK kp37 1 = some [4] := ⟨rfl, rfl⟩
def roadOV (r : Rd) (k : Nat) (l : List Po) : V := .agg [.d (.int .i64 r.pl), .d (.int .i64 r.de), .d (.int .i64 r.di), .own k (l.map pD)]
theorem getK (K : List AB) (x : AB) : (K ++ [x])[K.length]? = some x := by simp
theorem setK (K : List AB) (x y : AB) : (K ++ [x]).set K.length y = K ++ [y] := by simp
theorem getK2 (K : List AB) (x y : AB) : (K ++ [x] ++ [y])[K.length]? = some x := by simp
theorem getK3 (K : List AB) (x y : AB) : (K ++ [x] ++ [y])[K.length + 1]? = some y := by simp
theorem setK3 (K : List AB) (x y z : AB) : (K ++ [x] ++ [y]).set (K.length + 1) z = K ++ [x] ++ [z] := by simp [List.set_append_right]
theorem lenK (K : List AB) (x : AB) : (K ++ [x]).length = K.length + 1 := by simp
theorem with37g (r : Rd) (l : List Po) (k n sz L : Nat) (hk : k < L) : ACall Tryd.prog 37 [roadV r, .c (.own k (l.map pD))] (goneH k n sz L) (one (roadOV r k l) (goneH k n sz L)) := by
  have hL := goneH_len k n sz L
  have hlow := goneH_low k n sz L
  generalize goneH k n sz L = K at *
  refine acall_atE (bad := []) (kp := kp37) (X := tx) (nt := 13) (rs := [.cell 4 24]) Tryd.func37 rfl rfl rfl rfl mo (by kernel_rfl) (by rw [hL]; simp [roadOV, V.low, C.lowL, C.low, hk]) (hlow _) (fun hf => ?_)
  simp (config := { maxSteps := 2000000 }) only [go_sem, reduceIte, Nat.reduceEqDiff, Nat.reduceAdd, Nat.reduceLT, Nat.reduceLeDiff, Nat.reduceBEq, Nat.reduceMul, Nat.reduceSub, Nat.reduceDiv, Int.reduceNeg, Int.reduceLT, Int.reduceLE, Int.reduceEq, Int.reduceToNat, fillC, zc, List.replicate_succ, List.replicate_zero, List.flatten_cons, List.flatten_nil, toDs, toD, chunk, placeS, srcRows, List.all_cons, List.all_nil, List.all_map, Function.comp_def, List.take_nil, List.drop_nil, List.toList_toArray, C.eqbL, eqCs, eqC, List.drop_one, List.tail_cons, lim, lk37, roadV, roadC, roadOV, lk37, getK, setK, getK2, getK3, setK3, lenK, fillC, placeS]
  exact ⟨_, List.append_assoc _ _ _⟩
theorem with37o (r : Rd) (l : List Po) (k n sz : Nat) (H : List AB) (hk : H[k]? = some (.grow n sz)) : ACall Tryd.prog 37 [roadV r, .c (.own k (l.map pD))] H (one (roadOV r k l) H) :=
  ACall.lift hk (by simp [roadV, roadC, V.po, C.po]) (by simp [roadOV, V.po, C.po]) (with37g r l k n sz _ (List.getElem?_eq_some_iff.1 hk).1)
end Go.Proofs.YteamgbndnfjoaaaDoor
