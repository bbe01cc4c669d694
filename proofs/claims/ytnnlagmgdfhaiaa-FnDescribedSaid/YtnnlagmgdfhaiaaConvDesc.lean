/- Contracts of the laws' helpers on descriptors. -/
import Derived.Test.YtnnlagmgdfhaiaaRows2
import Derived.Test.YtnnlagmgdfhaiaaOpen
import Derived.Test.YtnnlagmgdfhaiaaDescOk
namespace Go.Proofs.Ytnnlagmgdfhaiaa
set_option linter.unusedSimpArgs false
set_option linter.unusedVariables false
open Go.RowKit Go.ChangeShapes Go.WideShapes
theorem info_Desc : (Try.prog.info? 84).map (fun i => (i.zero, i.size, i.bytes)) = some (some (.agg #[.int .i64 0, .int .i64 0, .int .i64 0, .int .i64 0, .int .i64 0, .int .i64 0]), 6, 48) := by kernel_rfl
end Go.Proofs.Ytnnlagmgdfhaiaa
