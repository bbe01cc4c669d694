/- Contracts of impl.DescOk, spec.DescOk and laws.toDesc. -/
import Derived.Test.YteajedcoidljhaaIn
namespace Go.Proofs.Yteajedcoidljhaa
set_option linter.unusedSimpArgs false
set_option linter.unusedVariables false
open Go.RowKit
def descB (op fl ln at_ sz ck : Int) : Bool := inB op 0 3 && inB fl 0 3 && inB ln 0 65535 && inB sz 0 65535 && inB ck 0 65535 && inB at_ 0 4294967295
set_option maxHeartbeats 400000 in
theorem implDescOk_c (op fl ln at_ sz ck : Int) (w : World) :
    Calls Try.prog 81 #[.agg #[.int .i64 op, .int .i64 fl, .int .i64 ln, .int .i64 at_, .int .i64 sz, .int .i64 ck]] w fun e w' => e = .returned (.bool (descB op fl ln at_ sz ck)) ∧ Below w.heap.size w w' := by
  go_enter Try.func81, Try.ntmps81
  go_wp2_with (go_at_call 62; refine (between_c _ _ _ _).mono ?_; rintro e w' ⟨rfl, rfl⟩)
  all_goals (go_ret; exact ⟨by simp [descB, *], by go_grown⟩)
set_option maxHeartbeats 400000 in
theorem specDescOk_c (op fl ln at_ sz ck : Int) (w : World) :
    Calls Try.prog 80 #[.agg #[.int .i64 op, .int .i64 fl, .int .i64 ln, .int .i64 at_, .int .i64 sz, .int .i64 ck]] w fun e w' => e = .returned (.bool (descB op fl ln at_ sz ck)) ∧ Below w.heap.size w w' := by
  go_enter Try.func80, Try.ntmps80
  go_wp2_with (go_at_call 71; refine (l01In_c _ _ _ _).mono ?_; rintro e w' ⟨rfl, rfl⟩)
  all_goals (go_ret; exact ⟨by simp [descB, *], by go_grown⟩)
set_option maxHeartbeats 400000 in
theorem toDesc_c (op fl ln at_ sz ck : Int) (w : World) :
    Calls Try.prog 83 #[.agg #[.int .i64 op, .int .i64 fl, .int .i64 ln, .int .i64 at_, .int .i64 sz, .int .i64 ck]] w fun e w' => e = .returned (.agg #[.int .i64 op, .int .i64 fl, .int .i64 ln, .int .i64 at_, .int .i64 sz, .int .i64 ck]) ∧ Below w.heap.size w w' := by
  go_enter Try.func83, Try.ntmps83
  go_wp2
  go_returns
  exact ⟨rfl, by go_grown⟩
end Go.Proofs.Yteajedcoidljhaa
