/-
  Walks of the moves by a rule.
-/
import Derived.Test.YtelnajpjanmliaaSlide
import Derived.Test.YtelnajpjanmliaaSlide2
import Derived.Test.YtelnajpjanmliaaInts
import Derived.Test.YtelnajpjanmliaaCmp
set_option linter.unusedVariables false
set_option linter.unusedSimpArgs false
namespace Go.Proofs.Ytelnajpjanmliaa
open Go.RowKit Slm
/-- Those of the first n directions that are moves by a rule. -/
def movesK (rule : Int) (b : List Int) : Nat → List Int
  | 0 => []
  | n + 1 => movesK rule b n ++ if slideB rule n b = b then [] else [(n : Int)]
theorem movesK_succ (rule : Int) (b : List Int) (n : Nat) : movesK rule b (n + 1) = movesK rule b n ++ if slideB rule n b = b then [] else [(n : Int)] := rfl
theorem movesK_len (rule : Int) (b : List Int) : ∀ n, (movesK rule b n).length ≤ n
  | 0 => by simp [movesK]
  | n + 1 => by
    have := movesK_len rule b n
    simp only [movesK, List.length_append]
    split <;> simp <;> omega
end Go.Proofs.Ytelnajpjanmliaa
