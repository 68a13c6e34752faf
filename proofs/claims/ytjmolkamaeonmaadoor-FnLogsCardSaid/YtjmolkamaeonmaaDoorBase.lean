/-
  Walks of the small functions: bounds; boards, rows and desks that are handed over and that are valid.
-/
import Derived.Test.YtjmolkamaeonmaaDoorCommon
set_option linter.unusedVariables false
set_option linter.unusedSimpArgs false
namespace Go.Proofs.YtjmolkamaeonmaaDoor
open Go.RowKit Slm
theorem spec_l1In (x a b : Int) (w : World) : Calls Tryd.prog 45 #[iv x, iv a, iv b] w fun e w' => e = .returned (.bool (inB x a b)) ∧ Below w.heap.size w w' := by
  by_cases h : a ≤ x
  all_goals
    go_enter Tryd.func45, Tryd.ntmps45
    go_wp2
    go_ret
    refine ⟨?_, Below.refl _ _⟩
    simp [h, inB]
    try omega
theorem impl_in (x a b : Int) (w : World) : Calls Tryd.prog 48 #[iv x, iv a, iv b] w fun e w' => e = .returned (.bool (inB x a b)) ∧ Below w.heap.size w w' := by
  by_cases h : a ≤ x
  all_goals
    go_enter Tryd.func48, Tryd.ntmps48
    go_wp2
    go_ret
    refine ⟨?_, Below.refl _ _⟩
    simp [h, inB]
    try omega
end Go.Proofs.YtjmolkamaeonmaaDoor
