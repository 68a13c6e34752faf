/-
  Walks of boards that slide by a rule, of the reference.
-/
import Derived.Test.YthcjokgjiknheaaRow2
import Derived.Test.YthcjokgjiknheaaLine
set_option linter.unusedVariables false
set_option linter.unusedSimpArgs false
namespace Go.Proofs.Ythcjokgjiknheaa
open Go.RowKit Slm
end Go.Proofs.Ythcjokgjiknheaa
