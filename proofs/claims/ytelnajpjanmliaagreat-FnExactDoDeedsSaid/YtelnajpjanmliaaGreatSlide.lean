/-
  Walks of boards that slide: by a rule, and with the score.
-/
import Derived.Test.YtelnajpjanmliaaGreatRow2
import Derived.Test.YtelnajpjanmliaaGreatLine
import Derived.Test.YtelnajpjanmliaaGreatEqv
set_option linter.unusedVariables false
set_option linter.unusedSimpArgs false
namespace Go.Proofs.YtelnajpjanmliaaGreat
open Go.RowKit Slm
end Go.Proofs.YtelnajpjanmliaaGreat
