/-
  Walks of the empty cells of a board, of the program; the tile by a seed.
-/
import Derived.Test.YtlhchjjegaflhaaDelQ
import Derived.Test.YtlhchjjegaflhaaSmall
set_option linter.unusedVariables false
set_option linter.unusedSimpArgs false
namespace Go.Proofs.Ytlhchjjegaflhaa
open Go.RowKit Slm
theorem ecells_range (n : Nat) : ecells (List.range (n + 1)) = ecells (List.range n) ++ ecell n := by
  rw [List.range_succ, ecells_append, ecells_cons]; simp [ecells]
def seedCell (b : List Int) (n : Nat) : Nat := (emptyL b).getD (n / 16 % (emptyL b).length) 0
def seedT (n : Nat) : Int := if n % 16 = 0 then 2 else 1
def cellI (k : Nat) : List Int := [((k / 4 : Nat) : Int), ((k % 4 : Nat) : Int)]
def seedTileV (b : List Int) (s : Int) : List Int × Int × Bool := if okL b = true ∧ inB s 0 65535 = true ∧ (emptyL b).length ≠ 0 then (cellI (seedCell b s.toNat), seedT s.toNat, true) else ([0, 0], 0, false)
end Go.Proofs.Ytlhchjjegaflhaa
