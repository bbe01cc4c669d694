/- Contracts of the laws' helpers on rings. -/
import Derived.Test.YtnkcomclhmlefaaRingOk
namespace Go.Proofs.Ytnkcomclhmlefaa
set_option linter.unusedSimpArgs false
set_option linter.unusedVariables false
open Go.RowKit Go.ChangeShapes Go.WideShapes
set_option maxHeartbeats 1000000 in
theorem eqRing_c (base : Int) (size : Int) (head : Int) (tail : Int) (w : World) :
    Calls Try.prog 30 #[.agg #[.int .i64 base, .int .i64 size, .int .i64 head, .int .i64 tail], .agg #[.int .i64 base, .int .i64 size, .int .i64 head, .int .i64 tail]] w fun e w' => e = .returned (.bool true) ∧ Below w.heap.size w w' := by
  go_enter Try.func30, Try.ntmps30
  go_wp2
  go_ret
  exact ⟨rfl, by go_grown⟩
end Go.Proofs.Ytnkcomclhmlefaa
