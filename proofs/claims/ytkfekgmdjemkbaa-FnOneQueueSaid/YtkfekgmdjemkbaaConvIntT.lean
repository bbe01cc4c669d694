/- Contracts of the laws' toIntS, szIntS. -/
import Derived.Test.YtkfekgmdjemkbaaRows2
import Derived.Test.YtkfekgmdjemkbaaOpen
namespace Go.Proofs.Ytkfekgmdjemkbaa
set_option linter.unusedSimpArgs false
set_option linter.unusedVariables false
open Go.RowKit Go.ChangeShapes Go.WideShapes
theorem info_int : (Try.prog.info? 3).map (fun i => (i.zero, i.size, i.bytes)) = some (some (.int .i64 0), 1, 8) := by kernel_rfl
end Go.Proofs.Ytkfekgmdjemkbaa
