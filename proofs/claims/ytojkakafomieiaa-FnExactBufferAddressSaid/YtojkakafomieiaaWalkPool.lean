/- The walks of laws.FnExactPoolOk and laws.FnExactBufferAddress. -/
import Derived.Test.YtojkakafomieiaaConvPool
import Derived.Test.YtojkakafomieiaaPoolFn
import Derived.Deep.RegionHeld3
namespace Go.Proofs.Ytojkakafomieiaa
set_option linter.unusedSimpArgs false
set_option linter.unusedVariables false
open Go.RowKit Go.ChangeShapes Go.WideShapes
set_option maxRecDepth 100000 in
set_option maxHeartbeats 1000000 in
theorem fnExactPoolOk_walk (base size count : Int) (A : Option Addr) (n c : Nat) (l : List Int) (w : World) (hb0 : I64 base) (hb1 : I64 size) (hb2 : I64 count) (hs : SlInt w A n c l) :
    Calls Try.prog 3 #[.agg #[.int .i64 base, .int .i64 size, .int .i64 count, .slice A n c]] w fun e w' => e = .returned (.bool true) ∧ Below w.heap.size w w' := by
  obtain ⟨⟨hn_a, hnc_a, hc_a, r_a⟩, hb_a⟩ := hs
  by_cases hz_a : (1048576 : Int) - n < 0
  · skip
    have hi_a := Lib.hid (szI_neg hz_a)
    go_enter Try.func3, Try.ntmps3
    go_wp2_with fail
    have k0 : Below w.heap.size w (w.alloc (.cells #[.int .i64 base, .int .i64 size, .int .i64 count, .slice A n c] 24)) := by go_grown
    have bx0_0 : (w.alloc (.cells #[.int .i64 base, .int .i64 size, .int .i64 count, .slice A n c] 24)).cell? ⟨w.heap.size, 0, none⟩ = some (.int .i64 base) := by simp [go_sem]
    have bx0_1 : (w.alloc (.cells #[.int .i64 base, .int .i64 size, .int .i64 count, .slice A n c] 24)).cell? ⟨w.heap.size, 1, none⟩ = some (.int .i64 size) := by simp [go_sem]
    have bx0_2 : (w.alloc (.cells #[.int .i64 base, .int .i64 size, .int .i64 count, .slice A n c] 24)).cell? ⟨w.heap.size, 2, none⟩ = some (.int .i64 count) := by simp [go_sem]
    have bx0_3 : (w.alloc (.cells #[.int .i64 base, .int .i64 size, .int .i64 count, .slice A n c] 24)).cell? ⟨w.heap.size, 3, none⟩ = some (.slice A n c) := by simp [go_sem]
    have bl0 : w.heap.size < (w.alloc (.cells #[.int .i64 base, .int .i64 size, .int .i64 count, .slice A n c] 24)).heap.size := by go_size
    have r_a := r_a.below k0
    have p0 := k0.size
    generalize hW0 : (w.alloc (.cells #[.int .i64 base, .int .i64 size, .int .i64 count, .slice A n c] 24)) = w0 at *
    clear hW0
    refine (szPool_c _ _ _ _ _ _ (1048576 : Int) _ (by omega) (by omega) (by omega)).mono ?_
    rintro e w1 ⟨rfl, hb⟩
    have k1 : Below w.heap.size w w1 := ext_step k0 (by omega) hb
    have p1 := hb.size
    have bx0_0 := ccell hb _ _ _ bx0_0
    have bx0_1 := ccell hb _ _ _ bx0_1
    have bx0_2 := ccell hb _ _ _ bx0_2
    have bx0_3 := ccell hb _ _ _ bx0_3
    have bl0 := Nat.lt_of_lt_of_le bl0 hb.size
    have r_a := r_a.below (hb.mono (by omega))
    rw [hi_a.out]
    clear hb
    go_wp2
    go_ret
    exact ⟨rfl, k1⟩
  have hi_a := Lib.hid (szI_nn hz_a)
  go_enter Try.func3, Try.ntmps3
  go_wp2_with fail
  have k0 : Below w.heap.size w (w.alloc (.cells #[.int .i64 base, .int .i64 size, .int .i64 count, .slice A n c] 24)) := by go_grown
  have bx0_0 : (w.alloc (.cells #[.int .i64 base, .int .i64 size, .int .i64 count, .slice A n c] 24)).cell? ⟨w.heap.size, 0, none⟩ = some (.int .i64 base) := by simp [go_sem]
  have bx0_1 : (w.alloc (.cells #[.int .i64 base, .int .i64 size, .int .i64 count, .slice A n c] 24)).cell? ⟨w.heap.size, 1, none⟩ = some (.int .i64 size) := by simp [go_sem]
  have bx0_2 : (w.alloc (.cells #[.int .i64 base, .int .i64 size, .int .i64 count, .slice A n c] 24)).cell? ⟨w.heap.size, 2, none⟩ = some (.int .i64 count) := by simp [go_sem]
  have bx0_3 : (w.alloc (.cells #[.int .i64 base, .int .i64 size, .int .i64 count, .slice A n c] 24)).cell? ⟨w.heap.size, 3, none⟩ = some (.slice A n c) := by simp [go_sem]
  have bl0 : w.heap.size < (w.alloc (.cells #[.int .i64 base, .int .i64 size, .int .i64 count, .slice A n c] 24)).heap.size := by go_size
  have r_a := r_a.below k0
  have p0 := k0.size
  generalize hW0 : (w.alloc (.cells #[.int .i64 base, .int .i64 size, .int .i64 count, .slice A n c] 24)) = w0 at *
  clear hW0
  refine (szPool_c _ _ _ _ _ _ (1048576 : Int) _ (by omega) (by omega) (by omega)).mono ?_
  rintro e w1 ⟨rfl, hb⟩
  have k1 : Below w.heap.size w w1 := ext_step k0 (by omega) hb
  have p1 := hb.size
  have bx0_0 := ccell hb _ _ _ bx0_0
  have bx0_1 := ccell hb _ _ _ bx0_1
  have bx0_2 := ccell hb _ _ _ bx0_2
  have bx0_3 := ccell hb _ _ _ bx0_3
  have bl0 := Nat.lt_of_lt_of_le bl0 hb.size
  have r_a := r_a.below (hb.mono (by omega))
  rw [hi_a.out]
  clear hb
  have hs_a : n ≤ 1048576 := by omega
  go_wp2_with fail
  refine (toPool_c _ _ _ _ _ _ l _ hn_a hs_a (r_a.more (by omega))).mono ?_
  rintro e w2 ⟨g_x, rfl, hg_x, b_x, hb⟩
  have k2 : Below w.heap.size w w2 := ext_step k1 (by omega) hb
  have p2 := hb.size
  have bx0_0 := ccell hb _ _ _ bx0_0
  have bx0_1 := ccell hb _ _ _ bx0_1
  have bx0_2 := ccell hb _ _ _ bx0_2
  have bx0_3 := ccell hb _ _ _ bx0_3
  have bl0 := Nat.lt_of_lt_of_le bl0 hb.size
  have r_a := r_a.below (hb.mono (by omega))
  have r_x := b_x.reads (size := 1) (n := n) (by rw [flatMap_len _ 1 (fun _ => rfl), hn_a])
  have o_x := b_x.own (base := w1.heap.size) (size := 1) (n := n) hg_x (by rw [flatMap_len _ 1 (fun _ => rfl), hn_a]) (by unfold maxLen; omega) rfl
  have u_x := fun k hk => (o_x.lt k hk).2
  clear hb
  go_wp2_with fail
  refine (specPoolOk_c _ _ _ _ _ _ l _ hn_a (by omega) (r_x.more (by omega))).mono ?_
  rintro e w3 ⟨rfl, hb⟩
  have k3 : Below w.heap.size w w3 := ext_step k2 (by omega) hb
  have p3 := hb.size
  have bx0_0 := ccell hb _ _ _ bx0_0
  have bx0_1 := ccell hb _ _ _ bx0_1
  have bx0_2 := ccell hb _ _ _ bx0_2
  have bx0_3 := ccell hb _ _ _ bx0_3
  have bl0 := Nat.lt_of_lt_of_le bl0 hb.size
  have r_a := r_a.below (hb.mono (by omega))
  have r_x := r_x.below (hb.mono (by omega))
  have o_x := own_ext o_x hb
  clear hb
  go_wp2_with fail
  refine (toPool_c _ _ _ _ _ _ l _ hn_a hs_a (r_a.more (by omega))).mono ?_
  rintro e w4 ⟨g_y, rfl, hg_y, b_y, hb⟩
  have k4 : Below w.heap.size w w4 := ext_step k3 (by omega) hb
  have p4 := hb.size
  have bx0_0 := ccell hb _ _ _ bx0_0
  have bx0_1 := ccell hb _ _ _ bx0_1
  have bx0_2 := ccell hb _ _ _ bx0_2
  have bx0_3 := ccell hb _ _ _ bx0_3
  have bl0 := Nat.lt_of_lt_of_le bl0 hb.size
  have r_a := r_a.below (hb.mono (by omega))
  have r_y := b_y.reads (size := 1) (n := n) (by rw [flatMap_len _ 1 (fun _ => rfl), hn_a])
  have o_y := b_y.own (base := w3.heap.size) (size := 1) (n := n) hg_y (by rw [flatMap_len _ 1 (fun _ => rfl), hn_a]) (by unfold maxLen; omega) rfl
  have u_y := fun k hk => (o_y.lt k hk).2
  clear hb
  go_wp2_with fail
  have hb : Below w4.heap.size w4 (w4.alloc (.cells #[.int .i64 base, .int .i64 size, .int .i64 count, .slice (some ⟨g_y, 0, none⟩) n n] 27)) := by go_grown
  have bx1_0 : (w4.alloc (.cells #[.int .i64 base, .int .i64 size, .int .i64 count, .slice (some ⟨g_y, 0, none⟩) n n] 27)).cell? ⟨w4.heap.size, 0, none⟩ = some (.int .i64 base) := by simp [go_sem]
  have bx1_1 : (w4.alloc (.cells #[.int .i64 base, .int .i64 size, .int .i64 count, .slice (some ⟨g_y, 0, none⟩) n n] 27)).cell? ⟨w4.heap.size, 1, none⟩ = some (.int .i64 size) := by simp [go_sem]
  have bx1_2 : (w4.alloc (.cells #[.int .i64 base, .int .i64 size, .int .i64 count, .slice (some ⟨g_y, 0, none⟩) n n] 27)).cell? ⟨w4.heap.size, 2, none⟩ = some (.int .i64 count) := by simp [go_sem]
  have bx1_3 : (w4.alloc (.cells #[.int .i64 base, .int .i64 size, .int .i64 count, .slice (some ⟨g_y, 0, none⟩) n n] 27)).cell? ⟨w4.heap.size, 3, none⟩ = some (.slice (some ⟨g_y, 0, none⟩) n n) := by simp [go_sem]
  have bl1 : w4.heap.size < (w4.alloc (.cells #[.int .i64 base, .int .i64 size, .int .i64 count, .slice (some ⟨g_y, 0, none⟩) n n] 27)).heap.size := by go_size
  generalize hW0 : (w4.alloc (.cells #[.int .i64 base, .int .i64 size, .int .i64 count, .slice (some ⟨g_y, 0, none⟩) n n] 27)) = w5 at *
  clear hW0
  have k5 : Below w.heap.size w w5 := ext_step k4 (by omega) hb
  have p5 := hb.size
  have bx0_0 := ccell hb _ _ _ bx0_0
  have bx0_1 := ccell hb _ _ _ bx0_1
  have bx0_2 := ccell hb _ _ _ bx0_2
  have bx0_3 := ccell hb _ _ _ bx0_3
  have bl0 := Nat.lt_of_lt_of_le bl0 hb.size
  have r_a := r_a.below (hb.mono (by omega))
  have r_y := r_y.below (hb.mono (by omega))
  have o_y := own_ext o_y hb
  clear hb
  refine (implPoolOk_c _ _ _ _ _ _ l _ hn_a (by omega) (r_y.more (by omega))).mono ?_
  rintro e w6 ⟨rfl, hb⟩
  have k6 : Below w.heap.size w w6 := ext_step k5 (by omega) hb
  have p6 := hb.size
  have bx0_0 := ccell hb _ _ _ bx0_0
  have bx0_1 := ccell hb _ _ _ bx0_1
  have bx0_2 := ccell hb _ _ _ bx0_2
  have bx0_3 := ccell hb _ _ _ bx0_3
  have bx1_0 := ccell hb _ _ _ bx1_0
  have bx1_1 := ccell hb _ _ _ bx1_1
  have bx1_2 := ccell hb _ _ _ bx1_2
  have bx1_3 := ccell hb _ _ _ bx1_3
  have bl0 := Nat.lt_of_lt_of_le bl0 hb.size
  have bl1 := Nat.lt_of_lt_of_le bl1 hb.size
  have r_a := r_a.below (hb.mono (by omega))
  have r_y := r_y.below (hb.mono (by omega))
  have o_y := own_ext o_y hb
  clear hb
  go_wp2_with fail
  go_region_held3 (fun w' => w'.cell? ⟨w4.heap.size, 0, none⟩ = some (.int .i64 base) ∧ w'.cell? ⟨w4.heap.size, 1, none⟩ = some (.int .i64 size) ∧ w'.cell? ⟨w4.heap.size, 2, none⟩ = some (.int .i64 count) ∧ w'.cell? ⟨w4.heap.size, 3, none⟩ = some (.slice (some ⟨g_y, 0, none⟩) n n) ∧ w'.cell? ⟨w.heap.size, 0, none⟩ = some (.int .i64 base) ∧ w'.cell? ⟨w.heap.size, 1, none⟩ = some (.int .i64 size) ∧ w'.cell? ⟨w.heap.size, 2, none⟩ = some (.int .i64 count) ∧ w'.cell? ⟨w.heap.size, 3, none⟩ = some (.slice A n c)) (exact ⟨bx1_0, bx1_1, bx1_2, bx1_3, bx0_0, bx0_1, bx0_2, bx0_3⟩)
    (first
      | (go_at_call 17; have hb : Below w6.heap.size w6 w6.drew := (Below.refl _ _).drew; generalize hW0 : w6.drew = w7 at *; clear hW0; have k7 : Below w.heap.size w w7 := ext_step k6 (by omega) hb; have p7 := hb.size; have bx0_0 := ccell hb _ _ _ bx0_0; have bx0_1 := ccell hb _ _ _ bx0_1; have bx0_2 := ccell hb _ _ _ bx0_2; have bx0_3 := ccell hb _ _ _ bx0_3; have bx1_0 := ccell hb _ _ _ bx1_0; have bx1_1 := ccell hb _ _ _ bx1_1; have bx1_2 := ccell hb _ _ _ bx1_2; have bx1_3 := ccell hb _ _ _ bx1_3; have bl0 := Nat.lt_of_lt_of_le bl0 hb.size; have bl1 := Nat.lt_of_lt_of_le bl1 hb.size; have r_a := r_a.below (hb.mono (by omega)); have r_y := r_y.below (hb.mono (by omega)); have o_y := own_ext o_y hb; clear hb; refine (toPool_c _ _ _ _ _ _ l _ hn_a hs_a (r_a.more (by omega))).mono ?_; rintro e w8 ⟨g_z, rfl, hg_z, b_z, hb⟩; have k8 : Below w.heap.size w w8 := ext_step k7 (by omega) hb; have p8 := hb.size; have bx0_0 := ccell hb _ _ _ bx0_0; have bx0_1 := ccell hb _ _ _ bx0_1; have bx0_2 := ccell hb _ _ _ bx0_2; have bx0_3 := ccell hb _ _ _ bx0_3; have bx1_0 := ccell hb _ _ _ bx1_0; have bx1_1 := ccell hb _ _ _ bx1_1; have bx1_2 := ccell hb _ _ _ bx1_2; have bx1_3 := ccell hb _ _ _ bx1_3; have bl0 := Nat.lt_of_lt_of_le bl0 hb.size; have bl1 := Nat.lt_of_lt_of_le bl1 hb.size; have r_a := r_a.below (hb.mono (by omega)); have r_y := r_y.below (hb.mono (by omega)); have o_y := own_ext o_y hb; have r_z := b_z.reads (size := 1) (n := n) (by rw [flatMap_len _ 1 (fun _ => rfl), hn_a]); have o_z := b_z.own (base := w7.heap.size) (size := 1) (n := n) hg_z (by rw [flatMap_len _ 1 (fun _ => rfl), hn_a]) (by unfold maxLen; omega) rfl; have u_z := fun k hk => (o_z.lt k hk).2; clear hb)
      | (go_at_call 19; refine (eqPool_c _ _ _ _ _ _ _ _ l _ hn_a (by omega) (r_y.more (by omega)) (r_z.more (by omega))).mono ?_; rintro e w9 ⟨rfl, hb⟩; have k9 : Below w.heap.size w w9 := ext_step k8 (by omega) hb; have p9 := hb.size; have bx0_0 := ccell hb _ _ _ bx0_0; have bx0_1 := ccell hb _ _ _ bx0_1; have bx0_2 := ccell hb _ _ _ bx0_2; have bx0_3 := ccell hb _ _ _ bx0_3; have bx1_0 := ccell hb _ _ _ bx1_0; have bx1_1 := ccell hb _ _ _ bx1_1; have bx1_2 := ccell hb _ _ _ bx1_2; have bx1_3 := ccell hb _ _ _ bx1_3; have bl0 := Nat.lt_of_lt_of_le bl0 hb.size; have bl1 := Nat.lt_of_lt_of_le bl1 hb.size; have r_a := r_a.below (hb.mono (by omega)); have r_y := r_y.below (hb.mono (by omega)); have o_y := own_ext o_y hb; have r_z := r_z.below (hb.mono (by omega)); have o_z := own_ext o_z hb; clear hb))
  go_wp2
  go_ret
  exact ⟨rfl, k9⟩
set_option maxRecDepth 100000 in
set_option maxHeartbeats 1000000 in
theorem fnExactBufferAddress_walk (base size count : Int) (A : Option Addr) (n c : Nat) (l : List Int) (k : Int) (w : World) (hb0 : I64 base) (hb1 : I64 size) (hb2 : I64 count) (hs : SlInt w A n c l) (hk : I64 k) :
    Calls Try.prog 5 #[.agg #[.int .i64 base, .int .i64 size, .int .i64 count, .slice A n c], .int .i64 k] w fun e w' => e = .returned (.bool true) ∧ Below w.heap.size w w' := by
  obtain ⟨⟨hn_a, hnc_a, hc_a, r_a⟩, hb_a⟩ := hs
  by_cases hz_a : (1048576 : Int) - n < 0
  · skip
    have hi_a := Lib.hid (szI_neg hz_a)
    go_enter Try.func5, Try.ntmps5
    go_wp2_with fail
    have k0 : Below w.heap.size w (w.alloc (.cells #[.int .i64 base, .int .i64 size, .int .i64 count, .slice A n c] 24)) := by go_grown
    have bx0_0 : (w.alloc (.cells #[.int .i64 base, .int .i64 size, .int .i64 count, .slice A n c] 24)).cell? ⟨w.heap.size, 0, none⟩ = some (.int .i64 base) := by simp [go_sem]
    have bx0_1 : (w.alloc (.cells #[.int .i64 base, .int .i64 size, .int .i64 count, .slice A n c] 24)).cell? ⟨w.heap.size, 1, none⟩ = some (.int .i64 size) := by simp [go_sem]
    have bx0_2 : (w.alloc (.cells #[.int .i64 base, .int .i64 size, .int .i64 count, .slice A n c] 24)).cell? ⟨w.heap.size, 2, none⟩ = some (.int .i64 count) := by simp [go_sem]
    have bx0_3 : (w.alloc (.cells #[.int .i64 base, .int .i64 size, .int .i64 count, .slice A n c] 24)).cell? ⟨w.heap.size, 3, none⟩ = some (.slice A n c) := by simp [go_sem]
    have bl0 : w.heap.size < (w.alloc (.cells #[.int .i64 base, .int .i64 size, .int .i64 count, .slice A n c] 24)).heap.size := by go_size
    have r_a := r_a.below k0
    have p0 := k0.size
    generalize hW0 : (w.alloc (.cells #[.int .i64 base, .int .i64 size, .int .i64 count, .slice A n c] 24)) = w0 at *
    clear hW0
    refine (szPool_c _ _ _ _ _ _ (1048576 : Int) _ (by omega) (by omega) (by omega)).mono ?_
    rintro e w1 ⟨rfl, hb⟩
    have k1 : Below w.heap.size w w1 := ext_step k0 (by omega) hb
    have p1 := hb.size
    have bx0_0 := ccell hb _ _ _ bx0_0
    have bx0_1 := ccell hb _ _ _ bx0_1
    have bx0_2 := ccell hb _ _ _ bx0_2
    have bx0_3 := ccell hb _ _ _ bx0_3
    have bl0 := Nat.lt_of_lt_of_le bl0 hb.size
    have r_a := r_a.below (hb.mono (by omega))
    rw [hi_a.out]
    clear hb
    go_wp2
    go_ret
    exact ⟨rfl, k1⟩
  have hi_a := Lib.hid (szI_nn hz_a)
  go_enter Try.func5, Try.ntmps5
  go_wp2_with fail
  have k0 : Below w.heap.size w (w.alloc (.cells #[.int .i64 base, .int .i64 size, .int .i64 count, .slice A n c] 24)) := by go_grown
  have bx0_0 : (w.alloc (.cells #[.int .i64 base, .int .i64 size, .int .i64 count, .slice A n c] 24)).cell? ⟨w.heap.size, 0, none⟩ = some (.int .i64 base) := by simp [go_sem]
  have bx0_1 : (w.alloc (.cells #[.int .i64 base, .int .i64 size, .int .i64 count, .slice A n c] 24)).cell? ⟨w.heap.size, 1, none⟩ = some (.int .i64 size) := by simp [go_sem]
  have bx0_2 : (w.alloc (.cells #[.int .i64 base, .int .i64 size, .int .i64 count, .slice A n c] 24)).cell? ⟨w.heap.size, 2, none⟩ = some (.int .i64 count) := by simp [go_sem]
  have bx0_3 : (w.alloc (.cells #[.int .i64 base, .int .i64 size, .int .i64 count, .slice A n c] 24)).cell? ⟨w.heap.size, 3, none⟩ = some (.slice A n c) := by simp [go_sem]
  have bl0 : w.heap.size < (w.alloc (.cells #[.int .i64 base, .int .i64 size, .int .i64 count, .slice A n c] 24)).heap.size := by go_size
  have r_a := r_a.below k0
  have p0 := k0.size
  generalize hW0 : (w.alloc (.cells #[.int .i64 base, .int .i64 size, .int .i64 count, .slice A n c] 24)) = w0 at *
  clear hW0
  refine (szPool_c _ _ _ _ _ _ (1048576 : Int) _ (by omega) (by omega) (by omega)).mono ?_
  rintro e w1 ⟨rfl, hb⟩
  have k1 : Below w.heap.size w w1 := ext_step k0 (by omega) hb
  have p1 := hb.size
  have bx0_0 := ccell hb _ _ _ bx0_0
  have bx0_1 := ccell hb _ _ _ bx0_1
  have bx0_2 := ccell hb _ _ _ bx0_2
  have bx0_3 := ccell hb _ _ _ bx0_3
  have bl0 := Nat.lt_of_lt_of_le bl0 hb.size
  have r_a := r_a.below (hb.mono (by omega))
  rw [hi_a.out]
  clear hb
  have hs_a : n ≤ 1048576 := by omega
  go_wp2_with fail
  refine (toPool_c _ _ _ _ _ _ l _ hn_a hs_a (r_a.more (by omega))).mono ?_
  rintro e w2 ⟨g_x, rfl, hg_x, b_x, hb⟩
  have k2 : Below w.heap.size w w2 := ext_step k1 (by omega) hb
  have p2 := hb.size
  have bx0_0 := ccell hb _ _ _ bx0_0
  have bx0_1 := ccell hb _ _ _ bx0_1
  have bx0_2 := ccell hb _ _ _ bx0_2
  have bx0_3 := ccell hb _ _ _ bx0_3
  have bl0 := Nat.lt_of_lt_of_le bl0 hb.size
  have r_a := r_a.below (hb.mono (by omega))
  have r_x := b_x.reads (size := 1) (n := n) (by rw [flatMap_len _ 1 (fun _ => rfl), hn_a])
  have o_x := b_x.own (base := w1.heap.size) (size := 1) (n := n) hg_x (by rw [flatMap_len _ 1 (fun _ => rfl), hn_a]) (by unfold maxLen; omega) rfl
  have u_x := fun k hk => (o_x.lt k hk).2
  clear hb
  go_wp2_with fail
  refine (specBufferAddress_c _ _ _ _ _ _ l _ hn_a (by omega) (r_x.more (by omega)) k).mono ?_
  rintro e w3 ⟨rfl, hb⟩
  have k3 : Below w.heap.size w w3 := ext_step k2 (by omega) hb
  have p3 := hb.size
  have bx0_0 := ccell hb _ _ _ bx0_0
  have bx0_1 := ccell hb _ _ _ bx0_1
  have bx0_2 := ccell hb _ _ _ bx0_2
  have bx0_3 := ccell hb _ _ _ bx0_3
  have bl0 := Nat.lt_of_lt_of_le bl0 hb.size
  have r_a := r_a.below (hb.mono (by omega))
  have r_x := r_x.below (hb.mono (by omega))
  have o_x := own_ext o_x hb
  clear hb
  go_wp2_with fail
  refine (toPool_c _ _ _ _ _ _ l _ hn_a hs_a (r_a.more (by omega))).mono ?_
  rintro e w4 ⟨g_y, rfl, hg_y, b_y, hb⟩
  have k4 : Below w.heap.size w w4 := ext_step k3 (by omega) hb
  have p4 := hb.size
  have bx0_0 := ccell hb _ _ _ bx0_0
  have bx0_1 := ccell hb _ _ _ bx0_1
  have bx0_2 := ccell hb _ _ _ bx0_2
  have bx0_3 := ccell hb _ _ _ bx0_3
  have bl0 := Nat.lt_of_lt_of_le bl0 hb.size
  have r_a := r_a.below (hb.mono (by omega))
  have r_y := b_y.reads (size := 1) (n := n) (by rw [flatMap_len _ 1 (fun _ => rfl), hn_a])
  have o_y := b_y.own (base := w3.heap.size) (size := 1) (n := n) hg_y (by rw [flatMap_len _ 1 (fun _ => rfl), hn_a]) (by unfold maxLen; omega) rfl
  have u_y := fun k hk => (o_y.lt k hk).2
  clear hb
  go_wp2_with fail
  have hb : Below w4.heap.size w4 (w4.alloc (.cells #[.int .i64 base, .int .i64 size, .int .i64 count, .slice (some ⟨g_y, 0, none⟩) n n] 27)) := by go_grown
  have bx1_0 : (w4.alloc (.cells #[.int .i64 base, .int .i64 size, .int .i64 count, .slice (some ⟨g_y, 0, none⟩) n n] 27)).cell? ⟨w4.heap.size, 0, none⟩ = some (.int .i64 base) := by simp [go_sem]
  have bx1_1 : (w4.alloc (.cells #[.int .i64 base, .int .i64 size, .int .i64 count, .slice (some ⟨g_y, 0, none⟩) n n] 27)).cell? ⟨w4.heap.size, 1, none⟩ = some (.int .i64 size) := by simp [go_sem]
  have bx1_2 : (w4.alloc (.cells #[.int .i64 base, .int .i64 size, .int .i64 count, .slice (some ⟨g_y, 0, none⟩) n n] 27)).cell? ⟨w4.heap.size, 2, none⟩ = some (.int .i64 count) := by simp [go_sem]
  have bx1_3 : (w4.alloc (.cells #[.int .i64 base, .int .i64 size, .int .i64 count, .slice (some ⟨g_y, 0, none⟩) n n] 27)).cell? ⟨w4.heap.size, 3, none⟩ = some (.slice (some ⟨g_y, 0, none⟩) n n) := by simp [go_sem]
  have bl1 : w4.heap.size < (w4.alloc (.cells #[.int .i64 base, .int .i64 size, .int .i64 count, .slice (some ⟨g_y, 0, none⟩) n n] 27)).heap.size := by go_size
  generalize hW0 : (w4.alloc (.cells #[.int .i64 base, .int .i64 size, .int .i64 count, .slice (some ⟨g_y, 0, none⟩) n n] 27)) = w5 at *
  clear hW0
  have k5 : Below w.heap.size w w5 := ext_step k4 (by omega) hb
  have p5 := hb.size
  have bx0_0 := ccell hb _ _ _ bx0_0
  have bx0_1 := ccell hb _ _ _ bx0_1
  have bx0_2 := ccell hb _ _ _ bx0_2
  have bx0_3 := ccell hb _ _ _ bx0_3
  have bl0 := Nat.lt_of_lt_of_le bl0 hb.size
  have r_a := r_a.below (hb.mono (by omega))
  have r_y := r_y.below (hb.mono (by omega))
  have o_y := own_ext o_y hb
  clear hb
  refine (implBufferAddress_c _ _ _ _ _ _ l _ hn_a (by omega) (r_y.more (by omega)) k).mono ?_
  rintro e w6 ⟨rfl, hb⟩
  have k6 : Below w.heap.size w w6 := ext_step k5 (by omega) hb
  have p6 := hb.size
  have bx0_0 := ccell hb _ _ _ bx0_0
  have bx0_1 := ccell hb _ _ _ bx0_1
  have bx0_2 := ccell hb _ _ _ bx0_2
  have bx0_3 := ccell hb _ _ _ bx0_3
  have bx1_0 := ccell hb _ _ _ bx1_0
  have bx1_1 := ccell hb _ _ _ bx1_1
  have bx1_2 := ccell hb _ _ _ bx1_2
  have bx1_3 := ccell hb _ _ _ bx1_3
  have bl0 := Nat.lt_of_lt_of_le bl0 hb.size
  have bl1 := Nat.lt_of_lt_of_le bl1 hb.size
  have r_a := r_a.below (hb.mono (by omega))
  have r_y := r_y.below (hb.mono (by omega))
  have o_y := own_ext o_y hb
  clear hb
  go_wp2_with fail
  go_region_held3 (fun w' => w'.cell? ⟨w4.heap.size, 0, none⟩ = some (.int .i64 base) ∧ w'.cell? ⟨w4.heap.size, 1, none⟩ = some (.int .i64 size) ∧ w'.cell? ⟨w4.heap.size, 2, none⟩ = some (.int .i64 count) ∧ w'.cell? ⟨w4.heap.size, 3, none⟩ = some (.slice (some ⟨g_y, 0, none⟩) n n) ∧ w'.cell? ⟨w.heap.size, 0, none⟩ = some (.int .i64 base) ∧ w'.cell? ⟨w.heap.size, 1, none⟩ = some (.int .i64 size) ∧ w'.cell? ⟨w.heap.size, 2, none⟩ = some (.int .i64 count) ∧ w'.cell? ⟨w.heap.size, 3, none⟩ = some (.slice A n c)) (exact ⟨bx1_0, bx1_1, bx1_2, bx1_3, bx0_0, bx0_1, bx0_2, bx0_3⟩)
    (first
      | (go_at_call 17; have hb : Below w6.heap.size w6 w6.drew := (Below.refl _ _).drew; generalize hW0 : w6.drew = w7 at *; clear hW0; have k7 : Below w.heap.size w w7 := ext_step k6 (by omega) hb; have p7 := hb.size; have bx0_0 := ccell hb _ _ _ bx0_0; have bx0_1 := ccell hb _ _ _ bx0_1; have bx0_2 := ccell hb _ _ _ bx0_2; have bx0_3 := ccell hb _ _ _ bx0_3; have bx1_0 := ccell hb _ _ _ bx1_0; have bx1_1 := ccell hb _ _ _ bx1_1; have bx1_2 := ccell hb _ _ _ bx1_2; have bx1_3 := ccell hb _ _ _ bx1_3; have bl0 := Nat.lt_of_lt_of_le bl0 hb.size; have bl1 := Nat.lt_of_lt_of_le bl1 hb.size; have r_a := r_a.below (hb.mono (by omega)); have r_y := r_y.below (hb.mono (by omega)); have o_y := own_ext o_y hb; clear hb; refine (toPool_c _ _ _ _ _ _ l _ hn_a hs_a (r_a.more (by omega))).mono ?_; rintro e w8 ⟨g_z, rfl, hg_z, b_z, hb⟩; have k8 : Below w.heap.size w w8 := ext_step k7 (by omega) hb; have p8 := hb.size; have bx0_0 := ccell hb _ _ _ bx0_0; have bx0_1 := ccell hb _ _ _ bx0_1; have bx0_2 := ccell hb _ _ _ bx0_2; have bx0_3 := ccell hb _ _ _ bx0_3; have bx1_0 := ccell hb _ _ _ bx1_0; have bx1_1 := ccell hb _ _ _ bx1_1; have bx1_2 := ccell hb _ _ _ bx1_2; have bx1_3 := ccell hb _ _ _ bx1_3; have bl0 := Nat.lt_of_lt_of_le bl0 hb.size; have bl1 := Nat.lt_of_lt_of_le bl1 hb.size; have r_a := r_a.below (hb.mono (by omega)); have r_y := r_y.below (hb.mono (by omega)); have o_y := own_ext o_y hb; have r_z := b_z.reads (size := 1) (n := n) (by rw [flatMap_len _ 1 (fun _ => rfl), hn_a]); have o_z := b_z.own (base := w7.heap.size) (size := 1) (n := n) hg_z (by rw [flatMap_len _ 1 (fun _ => rfl), hn_a]) (by unfold maxLen; omega) rfl; have u_z := fun k hk => (o_z.lt k hk).2; clear hb)
      | (go_at_call 19; refine (eqPool_c _ _ _ _ _ _ _ _ l _ hn_a (by omega) (r_y.more (by omega)) (r_z.more (by omega))).mono ?_; rintro e w9 ⟨rfl, hb⟩; have k9 : Below w.heap.size w w9 := ext_step k8 (by omega) hb; have p9 := hb.size; have bx0_0 := ccell hb _ _ _ bx0_0; have bx0_1 := ccell hb _ _ _ bx0_1; have bx0_2 := ccell hb _ _ _ bx0_2; have bx0_3 := ccell hb _ _ _ bx0_3; have bx1_0 := ccell hb _ _ _ bx1_0; have bx1_1 := ccell hb _ _ _ bx1_1; have bx1_2 := ccell hb _ _ _ bx1_2; have bx1_3 := ccell hb _ _ _ bx1_3; have bl0 := Nat.lt_of_lt_of_le bl0 hb.size; have bl1 := Nat.lt_of_lt_of_le bl1 hb.size; have r_a := r_a.below (hb.mono (by omega)); have r_y := r_y.below (hb.mono (by omega)); have o_y := own_ext o_y hb; have r_z := r_z.below (hb.mono (by omega)); have o_z := own_ext o_z hb; clear hb))
  go_wp2
  go_ret
  exact ⟨rfl, k9⟩
end Go.Proofs.Ytojkakafomieiaa
