/- laws.FnExactDescOk: the walk. -/
import Derived.Test.YtlhmpbaajaojgaaDescOk
import Derived.Test.YtlhmpbaajaojgaaOpen
namespace Go.Proofs.Ytlhmpbaajaojgaa
set_option linter.unusedSimpArgs false
set_option linter.unusedVariables false
open Go.RowKit
set_option maxHeartbeats 400000 in
theorem fnExactDescOk_walk (op fl ln at_ sz ck : Int) (w : World) (_ : I64 op) (_ : I64 fl) (_ : I64 ln) (_ : I64 at_) (_ : I64 sz) (_ : I64 ck) :
    Calls Try.prog 3 #[.agg #[.int .i64 op, .int .i64 fl, .int .i64 ln, .int .i64 at_, .int .i64 sz, .int .i64 ck]] w fun e w' => e = .returned (.bool true) ∧ Below w.heap.size w w' := by
  go_enter Try.func3, Try.ntmps3
  go_wp2_with (first
    | (go_at_call 10; refine (toDesc_c _ _ _ _ _ _ _).mono ?_; rintro e w1 ⟨rfl, hb⟩; have hk : Below w.heap.size w w1 := ext_step (by go_grown) (by go_size) hb; obtain ⟨hc, hf⟩ := bcell hb; have hz : w.heap.size < w1.heap.size := Nat.lt_of_lt_of_le (by go_size) hb.size; (try simp only [World.size_alloc] at hc hf); clear hb)
    | (go_at_call 9; refine (specDescOk_c _ _ _ _ _ _ _).mono ?_; rintro e w1 ⟨rfl, hb⟩; have hk : Below w.heap.size w w1 := ext_step (by go_grown) (by go_size) hb; obtain ⟨hc, hf⟩ := bcell hb; have hz : w.heap.size < w1.heap.size := Nat.lt_of_lt_of_le (by go_size) hb.size; clear hb)
    | (go_at_call 11; refine (implDescOk_c _ _ _ _ _ _ _).mono ?_; rintro e w1 ⟨rfl, hb⟩; have hk : Below w.heap.size w w1 := ext_step (by go_grown) (by go_size) hb; obtain ⟨hc, hf⟩ := bcell hb; have hz : w.heap.size < w1.heap.size := Nat.lt_of_lt_of_le (by go_size) hb.size; clear hb))
  go_ret
  exact ⟨rfl, by go_grown⟩
end Go.Proofs.Ytlhmpbaajaojgaa
