/-
  Walks of the small functions of numbers: seeds, directions, rules, worths, mergers.
-/
import Derived.Test.YtelnajpjanmliaaDoorBase
set_option linter.unusedVariables false
set_option linter.unusedSimpArgs false
namespace Go.Proofs.YtelnajpjanmliaaDoor
open Go.RowKit Slm
end Go.Proofs.YtelnajpjanmliaaDoor
