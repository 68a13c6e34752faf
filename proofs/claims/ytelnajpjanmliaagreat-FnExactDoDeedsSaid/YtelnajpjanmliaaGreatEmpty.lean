/-
  Walks of the empty cells of a board, of the reference.
-/
import Derived.Test.YtelnajpjanmliaaGreatLine
import Derived.Test.YtelnajpjanmliaaGreatEqv
set_option linter.unusedVariables false
set_option linter.unusedSimpArgs false
namespace Go.Proofs.YtelnajpjanmliaaGreat
open Go.RowKit Slm
/-- The empty ones of the first n cells. -/
def emptyK (b : List Int) (n : Nat) : List Nat := (List.range n).filter fun k => atL b k == 0
def emptyL (b : List Int) : List Nat := emptyK b 16
/-- Cells as they lie in a slice. -/
def ecells (l : List Nat) : List Value := l.flatMap fun k => [iv ((k / 4 : Nat) : Int), iv ((k % 4 : Nat) : Int)]
theorem ecells_len (l : List Nat) : (ecells l).length = l.length * 2 := by
  induction l with
  | nil => rfl
  | cons p l ih => simp only [ecells, List.flatMap_cons, List.length_append, List.length_cons, List.length_nil] at *; omega
theorem emptyK_succ (b : List Int) (n : Nat) : emptyK b (n + 1) = emptyK b n ++ if atL b n = 0 then [n] else [] := by
  unfold emptyK
  rw [List.range_succ, List.filter_append]
  congr 1
  by_cases h : atL b n = 0 <;> simp [h]
theorem emptyK_len (b : List Int) (n : Nat) : (emptyK b n).length ≤ n := by
  have := List.length_filter_le (fun k => atL b k == 0) (List.range n)
  simpa [emptyK] using this
theorem Sl.sig {w0 w : World} {v : Value} {e : TypeId} {s : Nat} {xs : List Value} {σ : List Blk} (h : Sl w0 w v e s xs σ) : ∃ τ, τ = σ ∧ Sl w0 w v e s xs τ := ⟨σ, rfl, h⟩
theorem emptyL_len (b : List Int) : (emptyL b).length ≤ 16 := emptyK_len b 16
end Go.Proofs.YtelnajpjanmliaaGreat
