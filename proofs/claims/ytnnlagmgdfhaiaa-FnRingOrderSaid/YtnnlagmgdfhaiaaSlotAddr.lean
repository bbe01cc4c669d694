/- Contracts of SlotAddress: impl and spec. -/
import Derived.Test.YtnnlagmgdfhaiaaRingOk
namespace Go.Proofs.Ytnnlagmgdfhaiaa
set_option linter.unusedSimpArgs false
set_option linter.unusedVariables false
open Go.RowKit Go.ChangeShapes Go.WideShapes
/-- The address of the slot of a count. -/
def slotI (base size head tail count : Int) : Int := if ringB base size head tail && decide (0 ≤ count) then base + count % size * 16 else -1
set_option maxHeartbeats 2000000 in
theorem implSlotAddress_c (base size head tail count : Int) (w : World) (h1 : I64 head) (h2 : I64 tail) (h3 : I64 count) :
    Calls Try.prog 53 #[.agg #[.int .i64 base, .int .i64 size, .int .i64 head, .int .i64 tail], .int .i64 count] w fun e w' => e = .returned (.int .i64 (slotI base size head tail count)) ∧ Below w.heap.size w w' := by
  obtain ⟨h31, h32⟩ := h3
  cases hok : ringB base size head tail
  · go_enter Try.func53, Try.ntmps53
    go_wp2_with (go_at_call 57; refine (calls_bool (implRingOk_c _ _ _ _ _ h1 h2) hok).mono ?_; rintro e w1 ⟨rfl, hb⟩; have hk : Below w.heap.size w w1 := ext_step (by go_grown) (by go_size) hb; have hz : w.heap.size < w1.heap.size := Nat.lt_of_lt_of_le (by go_size) hb.size; have hcs : w1.cell? ⟨w.heap.size, 0, none⟩ = some (.int .i64 base) ∧ w1.cell? ⟨w.heap.size, 1, none⟩ = some (.int .i64 size) ∧ w1.cell? ⟨w.heap.size, 2, none⟩ = some (.int .i64 head) ∧ w1.cell? ⟨w.heap.size, 3, none⟩ = some (.int .i64 tail) := ⟨(hb.cell (by go_size)).trans (by first | assumption | simp [go_sem]), (hb.cell (by go_size)).trans (by first | assumption | simp [go_sem]), (hb.cell (by go_size)).trans (by first | assumption | simp [go_sem]), (hb.cell (by go_size)).trans (by first | assumption | simp [go_sem])⟩; obtain ⟨hc0, hc1, hc2, hc3⟩ := hcs; clear hb)
    go_ret
    exact ⟨ret_int (by simp [slotI, hok]), hk⟩
  · obtain ⟨z1, z2, z3, z4, _⟩ := ringB_size hok
    by_cases hc : count < 0
    · go_enter Try.func53, Try.ntmps53
      go_wp2_with (go_at_call 57; refine (calls_bool (implRingOk_c _ _ _ _ _ h1 h2) hok).mono ?_; rintro e w1 ⟨rfl, hb⟩; have hk : Below w.heap.size w w1 := ext_step (by go_grown) (by go_size) hb; have hz : w.heap.size < w1.heap.size := Nat.lt_of_lt_of_le (by go_size) hb.size; have hcs : w1.cell? ⟨w.heap.size, 0, none⟩ = some (.int .i64 base) ∧ w1.cell? ⟨w.heap.size, 1, none⟩ = some (.int .i64 size) ∧ w1.cell? ⟨w.heap.size, 2, none⟩ = some (.int .i64 head) ∧ w1.cell? ⟨w.heap.size, 3, none⟩ = some (.int .i64 tail) := ⟨(hb.cell (by go_size)).trans (by first | assumption | simp [go_sem]), (hb.cell (by go_size)).trans (by first | assumption | simp [go_sem]), (hb.cell (by go_size)).trans (by first | assumption | simp [go_sem]), (hb.cell (by go_size)).trans (by first | assumption | simp [go_sem])⟩; obtain ⟨hc0, hc1, hc2, hc3⟩ := hcs; clear hb)
      go_ret
      exact ⟨ret_int (by simp [slotI, hok]; omega), hk⟩
    · have hp : (size == 0) = false := by simp; omega
      have m1 := Int.emod_nonneg count (show size ≠ 0 by omega)
      have m2 := Int.emod_lt_of_pos count (show 0 < size by omega)
      go_enter Try.func53, Try.ntmps53
      go_wp2_with (go_at_call 57; refine (calls_bool (implRingOk_c _ _ _ _ _ h1 h2) hok).mono ?_; rintro e w1 ⟨rfl, hb⟩; have hk : Below w.heap.size w w1 := ext_step (by go_grown) (by go_size) hb; have hz : w.heap.size < w1.heap.size := Nat.lt_of_lt_of_le (by go_size) hb.size; have hcs : w1.cell? ⟨w.heap.size, 0, none⟩ = some (.int .i64 base) ∧ w1.cell? ⟨w.heap.size, 1, none⟩ = some (.int .i64 size) ∧ w1.cell? ⟨w.heap.size, 2, none⟩ = some (.int .i64 head) ∧ w1.cell? ⟨w.heap.size, 3, none⟩ = some (.int .i64 tail) := ⟨(hb.cell (by go_size)).trans (by first | assumption | simp [go_sem]), (hb.cell (by go_size)).trans (by first | assumption | simp [go_sem]), (hb.cell (by go_size)).trans (by first | assumption | simp [go_sem]), (hb.cell (by go_size)).trans (by first | assumption | simp [go_sem])⟩; obtain ⟨hc0, hc1, hc2, hc3⟩ := hcs; clear hb)
      go_quiet (fail)
      go_wp2
      go_ret
      exact ⟨ret_int (by simp [slotI, hok]; omega), below_drewN hk _⟩
set_option maxHeartbeats 2000000 in
theorem specSlotAddress_c (base size head tail count : Int) (w : World) (h1 : I64 head) (h2 : I64 tail) (h3 : I64 count) :
    Calls Try.prog 110 #[.agg #[.int .i64 base, .int .i64 size, .int .i64 head, .int .i64 tail], .int .i64 count] w fun e w' => e = .returned (.int .i64 (slotI base size head tail count)) ∧ Below w.heap.size w w' := by
  obtain ⟨h31, h32⟩ := h3
  cases hok : ringB base size head tail
  · go_enter Try.func110, Try.ntmps110
    go_wp2_with (go_at_call 119; refine (calls_bool (specRingOk_c _ _ _ _ _ h1 h2) hok).mono ?_; rintro e w1 ⟨rfl, hb⟩; have hk : Below w.heap.size w w1 := ext_step (by go_grown) (by go_size) hb; have hz : w.heap.size < w1.heap.size := Nat.lt_of_lt_of_le (by go_size) hb.size; have hcs : w1.cell? ⟨w.heap.size, 0, none⟩ = some (.int .i64 base) ∧ w1.cell? ⟨w.heap.size, 1, none⟩ = some (.int .i64 size) ∧ w1.cell? ⟨w.heap.size, 2, none⟩ = some (.int .i64 head) ∧ w1.cell? ⟨w.heap.size, 3, none⟩ = some (.int .i64 tail) := ⟨(hb.cell (by go_size)).trans (by first | assumption | simp [go_sem]), (hb.cell (by go_size)).trans (by first | assumption | simp [go_sem]), (hb.cell (by go_size)).trans (by first | assumption | simp [go_sem]), (hb.cell (by go_size)).trans (by first | assumption | simp [go_sem])⟩; obtain ⟨hc0, hc1, hc2, hc3⟩ := hcs; clear hb)
    go_ret
    exact ⟨ret_int (by simp [slotI, hok]), hk⟩
  · obtain ⟨z1, z2, z3, z4, _⟩ := ringB_size hok
    by_cases hc : count < 0
    · go_enter Try.func110, Try.ntmps110
      go_wp2_with (go_at_call 119; refine (calls_bool (specRingOk_c _ _ _ _ _ h1 h2) hok).mono ?_; rintro e w1 ⟨rfl, hb⟩; have hk : Below w.heap.size w w1 := ext_step (by go_grown) (by go_size) hb; have hz : w.heap.size < w1.heap.size := Nat.lt_of_lt_of_le (by go_size) hb.size; have hcs : w1.cell? ⟨w.heap.size, 0, none⟩ = some (.int .i64 base) ∧ w1.cell? ⟨w.heap.size, 1, none⟩ = some (.int .i64 size) ∧ w1.cell? ⟨w.heap.size, 2, none⟩ = some (.int .i64 head) ∧ w1.cell? ⟨w.heap.size, 3, none⟩ = some (.int .i64 tail) := ⟨(hb.cell (by go_size)).trans (by first | assumption | simp [go_sem]), (hb.cell (by go_size)).trans (by first | assumption | simp [go_sem]), (hb.cell (by go_size)).trans (by first | assumption | simp [go_sem]), (hb.cell (by go_size)).trans (by first | assumption | simp [go_sem])⟩; obtain ⟨hc0, hc1, hc2, hc3⟩ := hcs; clear hb)
      go_ret
      exact ⟨ret_int (by simp [slotI, hok]; omega), hk⟩
    · have hp : (size == 0) = false := by simp; omega
      have m1 := Int.emod_nonneg count (show size ≠ 0 by omega)
      have m2 := Int.emod_lt_of_pos count (show 0 < size by omega)
      go_enter Try.func110, Try.ntmps110
      go_wp2_with (go_at_call 119; refine (calls_bool (specRingOk_c _ _ _ _ _ h1 h2) hok).mono ?_; rintro e w1 ⟨rfl, hb⟩; have hk : Below w.heap.size w w1 := ext_step (by go_grown) (by go_size) hb; have hz : w.heap.size < w1.heap.size := Nat.lt_of_lt_of_le (by go_size) hb.size; have hcs : w1.cell? ⟨w.heap.size, 0, none⟩ = some (.int .i64 base) ∧ w1.cell? ⟨w.heap.size, 1, none⟩ = some (.int .i64 size) ∧ w1.cell? ⟨w.heap.size, 2, none⟩ = some (.int .i64 head) ∧ w1.cell? ⟨w.heap.size, 3, none⟩ = some (.int .i64 tail) := ⟨(hb.cell (by go_size)).trans (by first | assumption | simp [go_sem]), (hb.cell (by go_size)).trans (by first | assumption | simp [go_sem]), (hb.cell (by go_size)).trans (by first | assumption | simp [go_sem]), (hb.cell (by go_size)).trans (by first | assumption | simp [go_sem])⟩; obtain ⟨hc0, hc1, hc2, hc3⟩ := hcs; clear hb)
      go_quiet (fail)
      go_wp2
      go_ret
      exact ⟨ret_int (by simp [slotI, hok]; omega), below_drewN hk _⟩
end Go.Proofs.Ytnnlagmgdfhaiaa
