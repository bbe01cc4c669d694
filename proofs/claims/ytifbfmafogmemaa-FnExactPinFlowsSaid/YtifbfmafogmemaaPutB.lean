/- Contracts of spec.l02Within, spec.PutBytes, impl.PutBytes. -/
import Derived.Test.YtifbfmafogmemaaBytes2
namespace Go.Proofs.Ytifbfmafogmemaa
set_option linter.unusedSimpArgs false
set_option linter.unusedVariables false
open Go.RowKit Go.ChangeShapes Go.WideShapes
def putB (s : ByteArray) (at_ : Int) (p : ByteArray) : ByteArray := if 0 ≤ at_ ∧ at_ + p.size ≤ s.size then putG s at_.toNat p else s
def l02B (s : ByteArray) (at_ n : Int) : Bool := decide (0 ≤ at_) && (decide (at_ ≤ s.size) && decide (n ≤ s.size - at_))
set_option maxHeartbeats 1000000 in
theorem l02Within_c (s : ByteArray) (at_ n : Int) (w : World) (h0 : s.size ≤ 9223372036854775807) :
    Calls Try.prog 120 #[.string s, .int .i64 at_, .int .i64 n] w fun e w' => e = .returned (.bool (l02B s at_ n)) ∧ w = w' := by
  by_cases e1 : 0 ≤ at_
  · by_cases e2 : at_ ≤ s.size
    · go_enter Try.func120, Try.ntmps120
      go_wp2
      go_ret
      exact ⟨ret_bool (by simp [l02B, e1, e2]), rfl⟩
    · go_enter Try.func120, Try.ntmps120
      go_wp2
      go_ret
      exact ⟨ret_bool (by simp [l02B]; omega), rfl⟩
  · go_enter Try.func120, Try.ntmps120
    go_wp2
    go_ret
    exact ⟨ret_bool (by simp [l02B]; omega), rfl⟩
set_option maxHeartbeats 1000000 in
theorem specPutBytes_c (s p : ByteArray) (at_ : Int) (w : World) (h0 : s.size ≤ 1048576) (h1 : p.size ≤ 1048576) (h2 : I64 at_) :
    Calls Try.prog 50 #[.string s, .int .i64 at_, .string p] w fun e w' => e = .returned (.string (putB s at_ p)) ∧ Below w.heap.size w w' := by
  by_cases e1 : 0 ≤ at_ ∧ at_ + p.size ≤ s.size
  · obtain ⟨e2, e3⟩ := e1
    obtain ⟨a, rfl⟩ := Int.eq_ofNat_of_zero_le e2
    have hv : putB s a p = putG s a p := by rw [putB, if_pos ⟨e2, e3⟩, Int.toNat_natCast]
    rw [hv, putG]
    go_enter Try.func50, Try.ntmps50
    go_wp2_with (go_at_call 120; refine (calls_bool (l02Within_c _ _ _ _ (by omega)) (c := true) (by simp [l02B]; omega)).mono ?_; rintro e w1 ⟨rfl, rfl⟩)
    go_quiet (fail)
    go_wp2
    go_ret
    exact ⟨ret_string rfl, below_drewN (Below.refl _ _) _⟩
  · have hv : putB s at_ p = s := by rw [putB, if_neg e1]
    rw [hv]
    go_enter Try.func50, Try.ntmps50
    go_wp2_with (go_at_call 120; refine (calls_bool (l02Within_c _ _ _ _ (by omega)) (c := false) (by simp [l02B]; omega)).mono ?_; rintro e w1 ⟨rfl, rfl⟩)
    all_goals go_ret
    all_goals exact ⟨rfl, Below.refl _ _⟩
end Go.Proofs.Ytifbfmafogmemaa
