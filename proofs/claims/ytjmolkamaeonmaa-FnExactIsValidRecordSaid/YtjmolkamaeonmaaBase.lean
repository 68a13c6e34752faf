/-
  Walks of the small functions: bounds; boards, rows and desks that are handed over and that are valid.
-/
import Derived.Test.YtjmolkamaeonmaaCommon
set_option linter.unusedVariables false
set_option linter.unusedSimpArgs false
namespace Go.Proofs.Ytjmolkamaeonmaa
open Go.RowKit Slm
theorem spec_l1In (x a b : Int) (w : World) : Calls Try.prog 14 #[iv x, iv a, iv b] w fun e w' => e = .returned (.bool (inB x a b)) ∧ Below w.heap.size w w' := by
  by_cases h : a ≤ x
  all_goals
    go_enter Try.func14, Try.ntmps14
    go_wp2
    go_ret
    refine ⟨?_, Below.refl _ _⟩
    simp [h, inB]
    try omega
end Go.Proofs.Ytjmolkamaeonmaa
