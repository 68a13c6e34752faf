/-
  Walks of the empty cells of a board: the library's deletion by a predicate, over lists of cells.
-/
import Derived.Test.YtlhchjjegaflhaaEmpty
set_option linter.unusedVariables false
set_option linter.unusedSimpArgs false
namespace Go.Proofs.Ytlhchjjegaflhaa
open Go.RowKit Slm
/-- A cell as it lies in a slice. -/
def ecell (k : Nat) : List Value := [iv ((k / 4 : Nat) : Int), iv ((k % 4 : Nat) : Int)]
theorem ecells_cons (k : Nat) (l : List Nat) : ecells (k :: l) = ecell k ++ ecells l := by simp [ecells, ecell]
theorem ecells_append (l m : List Nat) : ecells (l ++ m) = ecells l ++ ecells m := by simp [ecells]
theorem ecells_drop : ∀ (l : List Nat) (k : Nat), (ecells l).drop (k * 2) = ecells (l.drop k)
  | [], k => by simp [ecells]
  | x :: l, 0 => by simp
  | x :: l, k + 1 => by
    rw [ecells_cons, List.drop_succ_cons, ← ecells_drop l k, show (k + 1) * 2 = k * 2 + 2 from by omega]
    simp [ecell]
theorem ecells_get {l : List Nat} {k : Nat} (h : k < l.length) (more : List Value) : ((ecells l ++ more).drop (k * 2)).take 2 = ecell l[k] := by
  rw [List.drop_append_of_le_length (by rw [ecells_len]; omega), ecells_drop, List.drop_eq_getElem_cons h, ecells_cons, List.append_assoc]
  simp [ecell]
end Go.Proofs.Ytlhchjjegaflhaa
