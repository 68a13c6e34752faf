/-
  Walks of the small functions of numbers: seeds, directions, rules, worths, mergers.
-/
import Derived.Test.YtjmolkamaeonmaaDoorBase
set_option linter.unusedVariables false
set_option linter.unusedSimpArgs false
namespace Go.Proofs.YtjmolkamaeonmaaDoor
open Go.RowKit Slm
end Go.Proofs.YtjmolkamaeonmaaDoor
