/-
  How many tiles a board has: the count of the empty cells, and the mergers of a slide.
-/
import Derived.Test.YtlhchjjegaflhaaEmpty
import Derived.Test.YtlhchjjegaflhaaSlMath
set_option linter.unusedVariables false
set_option linter.unusedSimpArgs false
namespace Go.Proofs.Ytlhchjjegaflhaa
open Go.RowKit Slm
theorem emptyK_ind (b : List Int) : ∀ n : Nat, n ≤ b.length → (emptyK b n).length + indS (b.take n) = n
  | 0, _ => by simp [emptyK, indS]
  | n + 1, h => by
    have ih := emptyK_ind b n (by omega)
    rw [emptyK_succ, List.take_succ_eq_append_getElem (by omega)]
    have e : atL b n = b[n] := by simp [atL, show n < b.length by omega]
    have e2 : indS (b.take n ++ [b[n]]) = indS (b.take n) + ind b[n] := by simp only [indS, List.map_append, List.sum_append, List.map_cons, List.map_nil, List.sum_cons, List.sum_nil, Nat.add_zero]
    rw [e, e2, List.length_append]
    by_cases h0 : b[n] = 0
    · rw [if_pos h0, h0, show ind 0 = 0 from rfl]; simp only [List.length_cons, List.length_nil]; omega
    · rw [if_neg h0, show ind b[n] = 1 from by simp [ind, h0]]; simp only [List.length_nil]; omega
theorem empty_ind {b : List Int} (hl : b.length = 16) : (16 : Int) - (emptyL b).length = indS b := by
  have := emptyK_ind b 16 (by omega)
  rw [List.take_of_length_le (by omega)] at this
  unfold emptyL; omega
theorem many_less (rule : Int) (d : Nat) (hd : d ≤ 3) {b : List Int} (hl : b.length = 16) (h : okL b = true) : (16 : Int) - (emptyL b).length - (16 - (emptyL (slideB rule d b)).length) = mergedB rule d b := by
  have h1 := slide_count rule d hd hl h
  have h2 := empty_ind hl
  have h3 := empty_ind (b := slideB rule d b) (by rw [slideB_len, hl])
  omega
theorem spec_l2Many' (b : List Int) (hl : b.length = 16) (w : World) : Calls Try.prog 59 #[.agg (b.map iv).toArray] w fun e w' => e = .returned (iv (indS b : Nat)) ∧ Below w.heap.size w w' := by
  rw [← empty_ind hl]
  exact spec_l2Many b hl w
theorem indS_bd (b : List Int) : indS b ≤ b.length := by
  rw [← tiles_ind]; exact tilesL_len b
end Go.Proofs.Ytlhchjjegaflhaa
