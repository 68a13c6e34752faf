/-
  Walks of the comparison and the marks of replays.
-/
import Derived.Test.YtelnajpjanmliaaRep
import Derived.Test.YtelnajpjanmliaaEq
import Derived.Test.YtelnajpjanmliaaAgree
set_option linter.unusedVariables false
set_option linter.unusedSimpArgs false
namespace Go.Proofs.Ytelnajpjanmliaa
open Go.RowKit Slm
end Go.Proofs.Ytelnajpjanmliaa
