/- Contracts of the laws' helpers on rules, slots and steerings: to, sz, eq. -/
import Derived.Test.YtkfekgmdjemkbaaStP
import Derived.Test.YtkfekgmdjemkbaaConvInt
import Derived.Test.YtkfekgmdjemkbaaConvIntT
import Derived.Test.YtkfekgmdjemkbaaSlots4
import Derived.Test.YtkfekgmdjemkbaaRetB
namespace Go.Proofs.Ytkfekgmdjemkbaa
set_option linter.unusedSimpArgs false
set_option linter.unusedVariables false
open Go.RowKit Go.ChangeShapes Go.WideShapes
theorem info_Rule : (Try.prog.info? 58).map (fun i => (i.zero, i.size, i.bytes)) = some (some (.agg #[.int .i64 0, .int .i64 0, .int .i64 0, .int .i64 0, .int .i64 0, .int .i64 0, .int .i64 0, .int .i64 0, .int .i64 0]), 9, 72) := by kernel_rfl
theorem info_Slot : (Try.prog.info? 61).map (fun i => (i.zero, i.size, i.bytes)) = some (some (.agg #[.int .i64 0, .int .i64 0, .int .i64 0, .int .i64 0, .int .i64 0, .int .i64 0, .int .i64 0]), 7, 56) := by kernel_rfl
end Go.Proofs.Ytkfekgmdjemkbaa
