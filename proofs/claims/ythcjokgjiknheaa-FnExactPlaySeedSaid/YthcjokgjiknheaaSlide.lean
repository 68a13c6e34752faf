/-
  Walks of boards that slide: by a rule, and with the score.
-/
import Derived.Test.YthcjokgjiknheaaRow2
import Derived.Test.YthcjokgjiknheaaLine
import Derived.Test.YthcjokgjiknheaaEqv
set_option linter.unusedVariables false
set_option linter.unusedSimpArgs false
namespace Go.Proofs.Ythcjokgjiknheaa
open Go.RowKit Slm
end Go.Proofs.Ythcjokgjiknheaa
