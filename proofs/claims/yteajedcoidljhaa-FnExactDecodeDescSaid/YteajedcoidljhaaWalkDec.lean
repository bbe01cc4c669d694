/- The walk of laws.FnExactDecodeDesc. -/
import Derived.Test.YteajedcoidljhaaDecDesc
namespace Go.Proofs.Yteajedcoidljhaa
set_option linter.unusedSimpArgs false
set_option linter.unusedVariables false
open Go.RowKit Go.ChangeShapes Go.WideShapes
set_option maxHeartbeats 1000000 in
theorem eqDesc_c (op : Int) (fl : Int) (ln : Int) (at_ : Int) (sz : Int) (ck : Int) (w : World) :
    Calls Try.prog 48 #[.agg #[.int .i64 op, .int .i64 fl, .int .i64 ln, .int .i64 at_, .int .i64 sz, .int .i64 ck], .agg #[.int .i64 op, .int .i64 fl, .int .i64 ln, .int .i64 at_, .int .i64 sz, .int .i64 ck]] w fun e w' => e = .returned (.bool true) ∧ Below w.heap.size w w' := by
  go_enter Try.func48, Try.ntmps48
  go_wp2
  go_ret
  exact ⟨rfl, by go_grown⟩
set_option maxRecDepth 100000 in
set_option maxHeartbeats 2000000 in
theorem fnExactDecodeDesc_walk (s : ByteArray) (w : World) (q : s.size ≤ maxLen) :
    Calls Try.prog 12 #[.string s] w fun e w' => e = .returned (.bool true) ∧ Below w.heap.size w w' := by
  unfold maxLen at q
  by_cases hbig : 1048576 < s.size
  · go_enter Try.func12, Try.ntmps12
    go_wp2
    go_ret
    exact ⟨rfl, by go_grown⟩
  · have hspec := fun w => specDecodeDesc_c s w (by omega)
    have himpl := fun w => implDecodeDesc_c s w (by omega)
    generalize decV s (byt s 0) = v0 at *
    generalize decV s (byt s 1) = v1 at *
    generalize decV s (g16 s 2) = v2 at *
    generalize decV s (g32 s 4) = v3 at *
    generalize decV s (g16 s 8) = v4 at *
    generalize decV s (g16 s 10) = v5 at *
    generalize decB s = bo at *
    go_enter Try.func12, Try.ntmps12
    go_wp2_with fail
    have k0 : Below w.heap.size w w := by go_grown
    have p0 := k0.size
    refine (hspec _).mono ?_
    rintro e w1 ⟨rfl, hb⟩
    have k1 : Below w.heap.size w w1 := ext_step k0 (by omega) hb
    have p1 := hb.size
    clear hb
    go_wp2_with fail
    have hb : Below w1.heap.size w1 (w1.alloc (.cells #[.int .i64 v0, .int .i64 v1, .int .i64 v2, .int .i64 v3, .int .i64 v4, .int .i64 v5] 62)) := by go_grown
    have bx0_0 : (w1.alloc (.cells #[.int .i64 v0, .int .i64 v1, .int .i64 v2, .int .i64 v3, .int .i64 v4, .int .i64 v5] 62)).cell? ⟨w1.heap.size, 0, none⟩ = some (.int .i64 v0) := by simp [go_sem]
    have bx0_1 : (w1.alloc (.cells #[.int .i64 v0, .int .i64 v1, .int .i64 v2, .int .i64 v3, .int .i64 v4, .int .i64 v5] 62)).cell? ⟨w1.heap.size, 1, none⟩ = some (.int .i64 v1) := by simp [go_sem]
    have bx0_2 : (w1.alloc (.cells #[.int .i64 v0, .int .i64 v1, .int .i64 v2, .int .i64 v3, .int .i64 v4, .int .i64 v5] 62)).cell? ⟨w1.heap.size, 2, none⟩ = some (.int .i64 v2) := by simp [go_sem]
    have bx0_3 : (w1.alloc (.cells #[.int .i64 v0, .int .i64 v1, .int .i64 v2, .int .i64 v3, .int .i64 v4, .int .i64 v5] 62)).cell? ⟨w1.heap.size, 3, none⟩ = some (.int .i64 v3) := by simp [go_sem]
    have bx0_4 : (w1.alloc (.cells #[.int .i64 v0, .int .i64 v1, .int .i64 v2, .int .i64 v3, .int .i64 v4, .int .i64 v5] 62)).cell? ⟨w1.heap.size, 4, none⟩ = some (.int .i64 v4) := by simp [go_sem]
    have bx0_5 : (w1.alloc (.cells #[.int .i64 v0, .int .i64 v1, .int .i64 v2, .int .i64 v3, .int .i64 v4, .int .i64 v5] 62)).cell? ⟨w1.heap.size, 5, none⟩ = some (.int .i64 v5) := by simp [go_sem]
    have bl0 : w1.heap.size < (w1.alloc (.cells #[.int .i64 v0, .int .i64 v1, .int .i64 v2, .int .i64 v3, .int .i64 v4, .int .i64 v5] 62)).heap.size := by go_size
    generalize hW0 : (w1.alloc (.cells #[.int .i64 v0, .int .i64 v1, .int .i64 v2, .int .i64 v3, .int .i64 v4, .int .i64 v5] 62)) = w2 at *
    clear hW0
    have k2 : Below w.heap.size w w2 := ext_step k1 (by omega) hb
    have p2 := hb.size
    skip
    clear hb
    refine (himpl _).mono ?_
    rintro e w3 ⟨rfl, hb⟩
    have k3 : Below w.heap.size w w3 := ext_step k2 (by omega) hb
    have p3 := hb.size
    replace bx0_0 := ccell hb _ _ _ bx0_0
    replace bx0_1 := ccell hb _ _ _ bx0_1
    replace bx0_2 := ccell hb _ _ _ bx0_2
    replace bx0_3 := ccell hb _ _ _ bx0_3
    replace bx0_4 := ccell hb _ _ _ bx0_4
    replace bx0_5 := ccell hb _ _ _ bx0_5
    have bl0 := Nat.lt_of_lt_of_le bl0 hb.size
    clear hb
    go_wp2_with fail
    have hb : Below w3.heap.size w3 (w3.alloc (.cells #[.int .i64 v0, .int .i64 v1, .int .i64 v2, .int .i64 v3, .int .i64 v4, .int .i64 v5] 62)) := by go_grown
    have bx1_0 : (w3.alloc (.cells #[.int .i64 v0, .int .i64 v1, .int .i64 v2, .int .i64 v3, .int .i64 v4, .int .i64 v5] 62)).cell? ⟨w3.heap.size, 0, none⟩ = some (.int .i64 v0) := by simp [go_sem]
    have bx1_1 : (w3.alloc (.cells #[.int .i64 v0, .int .i64 v1, .int .i64 v2, .int .i64 v3, .int .i64 v4, .int .i64 v5] 62)).cell? ⟨w3.heap.size, 1, none⟩ = some (.int .i64 v1) := by simp [go_sem]
    have bx1_2 : (w3.alloc (.cells #[.int .i64 v0, .int .i64 v1, .int .i64 v2, .int .i64 v3, .int .i64 v4, .int .i64 v5] 62)).cell? ⟨w3.heap.size, 2, none⟩ = some (.int .i64 v2) := by simp [go_sem]
    have bx1_3 : (w3.alloc (.cells #[.int .i64 v0, .int .i64 v1, .int .i64 v2, .int .i64 v3, .int .i64 v4, .int .i64 v5] 62)).cell? ⟨w3.heap.size, 3, none⟩ = some (.int .i64 v3) := by simp [go_sem]
    have bx1_4 : (w3.alloc (.cells #[.int .i64 v0, .int .i64 v1, .int .i64 v2, .int .i64 v3, .int .i64 v4, .int .i64 v5] 62)).cell? ⟨w3.heap.size, 4, none⟩ = some (.int .i64 v4) := by simp [go_sem]
    have bx1_5 : (w3.alloc (.cells #[.int .i64 v0, .int .i64 v1, .int .i64 v2, .int .i64 v3, .int .i64 v4, .int .i64 v5] 62)).cell? ⟨w3.heap.size, 5, none⟩ = some (.int .i64 v5) := by simp [go_sem]
    have bl1 : w3.heap.size < (w3.alloc (.cells #[.int .i64 v0, .int .i64 v1, .int .i64 v2, .int .i64 v3, .int .i64 v4, .int .i64 v5] 62)).heap.size := by go_size
    generalize hW0 : (w3.alloc (.cells #[.int .i64 v0, .int .i64 v1, .int .i64 v2, .int .i64 v3, .int .i64 v4, .int .i64 v5] 62)) = w4 at *
    clear hW0
    have k4 : Below w.heap.size w w4 := ext_step k3 (by omega) hb
    have p4 := hb.size
    replace bx0_0 := ccell hb _ _ _ bx0_0
    replace bx0_1 := ccell hb _ _ _ bx0_1
    replace bx0_2 := ccell hb _ _ _ bx0_2
    replace bx0_3 := ccell hb _ _ _ bx0_3
    replace bx0_4 := ccell hb _ _ _ bx0_4
    replace bx0_5 := ccell hb _ _ _ bx0_5
    have bl0 := Nat.lt_of_lt_of_le bl0 hb.size
    skip
    clear hb
    refine (eqDesc_c _ _ _ _ _ _ _).mono ?_
    rintro e w5 ⟨rfl, hb⟩
    have k5 : Below w.heap.size w w5 := ext_step k4 (by omega) hb
    have p5 := hb.size
    replace bx0_0 := ccell hb _ _ _ bx0_0
    replace bx0_1 := ccell hb _ _ _ bx0_1
    replace bx0_2 := ccell hb _ _ _ bx0_2
    replace bx0_3 := ccell hb _ _ _ bx0_3
    replace bx0_4 := ccell hb _ _ _ bx0_4
    replace bx0_5 := ccell hb _ _ _ bx0_5
    replace bx1_0 := ccell hb _ _ _ bx1_0
    replace bx1_1 := ccell hb _ _ _ bx1_1
    replace bx1_2 := ccell hb _ _ _ bx1_2
    replace bx1_3 := ccell hb _ _ _ bx1_3
    replace bx1_4 := ccell hb _ _ _ bx1_4
    replace bx1_5 := ccell hb _ _ _ bx1_5
    have bl0 := Nat.lt_of_lt_of_le bl0 hb.size
    have bl1 := Nat.lt_of_lt_of_le bl1 hb.size
    clear hb
    go_wp2
    go_ret
    exact ⟨rfl, k5⟩
end Go.Proofs.Yteajedcoidljhaa
