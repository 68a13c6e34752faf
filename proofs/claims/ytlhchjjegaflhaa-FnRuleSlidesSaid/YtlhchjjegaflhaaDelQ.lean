/-
  Walks of the empty cells of a board: the library's deletion by a predicate, over lists of cells; the tile by a seed.
-/
import Derived.Test.YtlhchjjegaflhaaDelP
set_option linter.unusedVariables false
set_option linter.unusedSimpArgs false
namespace Go.Proofs.Ytlhchjjegaflhaa
open Go.RowKit Slm
theorem drop_at2 {C : List Value} {xs : List Nat} {more : List Value} {j : Nat} (h : C.drop (j * 2) = ecells (xs.drop j) ++ more) (hj : j < xs.length) : (C.drop (j * 2)).take 2 = ecell xs[j] ∧ C.drop ((j + 1) * 2) = ecells (xs.drop (j + 1)) ++ more := by
  have e : xs.drop j = xs[j] :: xs.drop (j + 1) := List.drop_eq_getElem_cons hj
  rw [e, ecells_cons, List.append_assoc] at h
  refine ⟨by rw [h]; rfl, ?_⟩
  rw [show (j + 1) * 2 = j * 2 + 2 from by omega, ← List.drop_drop, h]
  rfl
theorem drop_spl {C v : List Value} {i j : Nat} (hi : i + v.length ≤ C.length) (h : i + v.length ≤ j) : (splice C i v).drop j = C.drop j := by
  apply List.ext_getElem?
  intro q
  rw [List.getElem?_drop, List.getElem?_drop, splice_get _ _ _ _ hi, if_neg (by omega)]
theorem take_spl {C v : List Value} {i : Nat} (hi : i + v.length ≤ C.length) : (splice C i v).take (i + v.length) = C.take i ++ v := by
  apply List.ext_getElem?
  intro q
  by_cases hq : q < i + v.length
  · rw [List.getElem?_take_of_lt hq, splice_get _ _ _ _ hi]
    by_cases hqi : i ≤ q
    · rw [if_pos ⟨hqi, hq⟩, List.getElem?_append_right (by simp; omega)]
      congr 1
      simp; omega
    · rw [if_neg (by omega), List.getElem?_append_left (by simp; omega), List.getElem?_take_of_lt (by omega)]
  · rw [List.getElem?_eq_none (by simp; omega), List.getElem?_eq_none (by simp; omega)]
theorem ecell_len (k : Nat) : (ecell k).length = 2 := rfl
end Go.Proofs.Ytlhchjjegaflhaa
