/-
  Walks of boards that slide: by a rule, and with the score.
-/
import Derived.Test.YtelnajpjanmliaaRow2
import Derived.Test.YtelnajpjanmliaaLine
import Derived.Test.YtelnajpjanmliaaEqv
set_option linter.unusedVariables false
set_option linter.unusedSimpArgs false
namespace Go.Proofs.Ytelnajpjanmliaa
open Go.RowKit Slm
end Go.Proofs.Ytelnajpjanmliaa
