/- Contracts of the laws' helpers on numbers. -/
import Derived.Test.YtkfekgmdjemkbaaRows2
import Derived.Test.YtkfekgmdjemkbaaOpen
namespace Go.Proofs.Ytkfekgmdjemkbaa
set_option linter.unusedSimpArgs false
set_option linter.unusedVariables false
open Go.RowKit Go.ChangeShapes Go.WideShapes
end Go.Proofs.Ytkfekgmdjemkbaa
