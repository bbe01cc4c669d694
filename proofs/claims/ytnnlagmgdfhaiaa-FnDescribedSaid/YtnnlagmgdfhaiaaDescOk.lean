/- Contracts of impl.DescOk, spec.DescOk and laws.toDesc. -/
import Derived.Test.YtnnlagmgdfhaiaaIn
namespace Go.Proofs.Ytnnlagmgdfhaiaa
set_option linter.unusedSimpArgs false
set_option linter.unusedVariables false
open Go.RowKit
def descB (op fl ln at_ sz ck : Int) : Bool := inB op 0 3 && inB fl 0 3 && inB ln 0 65535 && inB sz 0 65535 && inB ck 0 65535 && inB at_ 0 4294967295
set_option maxHeartbeats 400000 in
theorem implDescOk_c (op fl ln at_ sz ck : Int) (w : World) :
    Calls Try.prog 62 #[.agg #[.int .i64 op, .int .i64 fl, .int .i64 ln, .int .i64 at_, .int .i64 sz, .int .i64 ck]] w fun e w' => e = .returned (.bool (descB op fl ln at_ sz ck)) ∧ Below w.heap.size w w' := by
  go_enter Try.func62, Try.ntmps62
  go_wp2_with (go_at_call 78; refine (between_c _ _ _ _).mono ?_; rintro e w' ⟨rfl, rfl⟩)
  all_goals (go_ret; exact ⟨by simp [descB, *], by go_grown⟩)
end Go.Proofs.Ytnnlagmgdfhaiaa
