/- Contracts of the laws' helpers on mappings. -/
import Derived.Test.YtnnlagmgdfhaiaaRows2
import Derived.Test.YtnnlagmgdfhaiaaOpen
namespace Go.Proofs.Ytnnlagmgdfhaiaa
set_option linter.unusedSimpArgs false
set_option linter.unusedVariables false
open Go.RowKit Go.ChangeShapes Go.WideShapes
theorem info_Mapping : (Try.prog.info? 51).map (fun i => (i.zero, i.size, i.bytes)) = some (some (.agg #[.int .i64 0, .int .i64 0, .int .i64 0, .bool false]), 4, 32) := by kernel_rfl
end Go.Proofs.Ytnnlagmgdfhaiaa
