/-
  Walks of a row that slides: by a rule, and with the score.
-/
import Derived.Test.YtelnajpjanmliaaRules0
import Derived.Test.YtelnajpjanmliaaRowMath
import Derived.Test.YtelnajpjanmliaaDel
set_option linter.unusedVariables false
set_option linter.unusedSimpArgs false
namespace Go.Proofs.Ytelnajpjanmliaa
open Go.RowKit Slm
theorem map_get {l : List Int} {k : Nat} (h : k < l.length) (more : List Value) : (l.map iv ++ more)[k]? = some (iv l[k]) := by
  rw [List.getElem?_append_left (by simpa using h), List.getElem?_map, List.getElem?_eq_getElem h]; rfl
theorem some_iv {l : List Int} {k : Nat} {x : Int} (h : l[k]? = some x) : (l.map iv)[k]? = some (iv x) := by rw [List.getElem?_map, h]; rfl
theorem tiles_take (r : List Int) (k : Nat) (h : k < r.length) : tilesL (r.take (k + 1)) = tilesL (r.take k) ++ (if r[k] = 0 then [] else [r[k]]) := by
  rw [List.take_succ_eq_append_getElem h]
  unfold tilesL
  rw [List.filter_append]
  congr 1
  by_cases h0 : r[k] = 0
  · rw [if_pos h0]; simp [h0]
  · rw [if_neg h0]; simp [h0]
theorem acc_zero (rule : Int) (r : List Int) (k : Nat) (h : k < r.length) (h0 : r[k] = 0) : accT rule (tilesL (r.take (k + 1))) = accT rule (tilesL (r.take k)) := by
  rw [tiles_take r k h, if_pos h0, List.append_nil]
theorem acc_tile (rule : Int) (r : List Int) (k : Nat) (h : k < r.length) (h0 : r[k] ≠ 0) : accT rule (tilesL (r.take (k + 1))) = slT rule (accT rule (tilesL (r.take k))) r[k] := by
  rw [tiles_take r k h, if_neg h0, accT_snoc]
end Go.Proofs.Ytelnajpjanmliaa
