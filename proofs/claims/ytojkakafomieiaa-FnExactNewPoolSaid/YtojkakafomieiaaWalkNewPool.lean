/- The walk of laws.FnExactNewPool. -/
import Derived.Test.YtojkakafomieiaaConvPool
import Derived.Test.YtojkakafomieiaaNewPool
import Derived.Deep.RegionHeld3
namespace Go.Proofs.Ytojkakafomieiaa
set_option linter.unusedSimpArgs false
set_option linter.unusedVariables false
open Go.RowKit Go.ChangeShapes Go.WideShapes
theorem nfree_len (base size count : Int) : (nfree base size count).length ≤ 16 := by
  unfold nfree
  split
  · rename_i h; have := poolH_t h; rw [upto_len]; omega
  · simp
set_option maxRecDepth 100000 in
set_option maxHeartbeats 2000000 in
theorem fnExactNewPool_walk (base size count : Int) (w : World) (h0 : I64 base) (h1 : I64 size) (h2 : I64 count) :
    Calls Try.prog 4 #[.int .i64 base, .int .i64 size, .int .i64 count] w fun e w' => e = .returned (.bool true) ∧ Below w.heap.size w w' := by
  have hlen := nfree_len base size count
  have hspec := fun w => specNewPool_c base size count w
  have himpl := fun w => implNewPool_c base size count w
  generalize nfree base size count = l at *
  generalize nbase base size count = x0 at *
  generalize nsize base size count = x1 at *
  generalize ncount base size count = x2 at *
  generalize poolH base size count = bb at *
  obtain ⟨n, hn_v⟩ : ∃ n, l.length = n := ⟨_, rfl⟩
  simp only [hn_v] at hspec himpl hlen
  go_enter Try.func4, Try.ntmps4
  go_wp2_with fail
  have k0 : Below w.heap.size w w := by go_grown
  have p0 := k0.size
  refine (hspec _).mono ?_
  rintro e w1 ⟨A_v, c_v, rfl, o_v, hb⟩
  have k1 : Below w.heap.size w w1 := ext_step k0 (by omega) hb
  have p1 := hb.size
  have r_v := Reads.of_own o_v
  have u_v := fun k hk => (o_v.lt k hk).2
  clear hb
  go_wp2_with fail
  have hb : Below w1.heap.size w1 (w1.alloc (.cells #[.int .i64 x0, .int .i64 x1, .int .i64 x2, .slice A_v n c_v] 27)) := by go_grown
  have bx0_0 : (w1.alloc (.cells #[.int .i64 x0, .int .i64 x1, .int .i64 x2, .slice A_v n c_v] 27)).cell? ⟨w1.heap.size, 0, none⟩ = some (.int .i64 x0) := by simp [go_sem]
  have bx0_1 : (w1.alloc (.cells #[.int .i64 x0, .int .i64 x1, .int .i64 x2, .slice A_v n c_v] 27)).cell? ⟨w1.heap.size, 1, none⟩ = some (.int .i64 x1) := by simp [go_sem]
  have bx0_2 : (w1.alloc (.cells #[.int .i64 x0, .int .i64 x1, .int .i64 x2, .slice A_v n c_v] 27)).cell? ⟨w1.heap.size, 2, none⟩ = some (.int .i64 x2) := by simp [go_sem]
  have bx0_3 : (w1.alloc (.cells #[.int .i64 x0, .int .i64 x1, .int .i64 x2, .slice A_v n c_v] 27)).cell? ⟨w1.heap.size, 3, none⟩ = some (.slice A_v n c_v) := by simp [go_sem]
  have bl0 : w1.heap.size < (w1.alloc (.cells #[.int .i64 x0, .int .i64 x1, .int .i64 x2, .slice A_v n c_v] 27)).heap.size := by go_size
  generalize hW0 : (w1.alloc (.cells #[.int .i64 x0, .int .i64 x1, .int .i64 x2, .slice A_v n c_v] 27)) = w2 at *
  clear hW0
  have k2 : Below w.heap.size w w2 := ext_step k1 (by omega) hb
  have p2 := hb.size
  have r_v := r_v.below (hb.mono (by omega))
  have o_v := own_ext o_v hb
  clear hb
  refine (himpl _).mono ?_
  rintro e w3 ⟨A_g, c_g, rfl, o_g, hb⟩
  have k3 : Below w.heap.size w w3 := ext_step k2 (by omega) hb
  have p3 := hb.size
  have bx0_0 := ccell hb _ _ _ bx0_0
  have bx0_1 := ccell hb _ _ _ bx0_1
  have bx0_2 := ccell hb _ _ _ bx0_2
  have bx0_3 := ccell hb _ _ _ bx0_3
  have bl0 := Nat.lt_of_lt_of_le bl0 hb.size
  have r_v := r_v.below (hb.mono (by omega))
  have o_v := own_ext o_v hb
  have r_g := Reads.of_own o_g
  have u_g := fun k hk => (o_g.lt k hk).2
  clear hb
  go_wp2_with fail
  have hb : Below w3.heap.size w3 (w3.alloc (.cells #[.int .i64 x0, .int .i64 x1, .int .i64 x2, .slice A_g n c_g] 27)) := by go_grown
  have bx1_0 : (w3.alloc (.cells #[.int .i64 x0, .int .i64 x1, .int .i64 x2, .slice A_g n c_g] 27)).cell? ⟨w3.heap.size, 0, none⟩ = some (.int .i64 x0) := by simp [go_sem]
  have bx1_1 : (w3.alloc (.cells #[.int .i64 x0, .int .i64 x1, .int .i64 x2, .slice A_g n c_g] 27)).cell? ⟨w3.heap.size, 1, none⟩ = some (.int .i64 x1) := by simp [go_sem]
  have bx1_2 : (w3.alloc (.cells #[.int .i64 x0, .int .i64 x1, .int .i64 x2, .slice A_g n c_g] 27)).cell? ⟨w3.heap.size, 2, none⟩ = some (.int .i64 x2) := by simp [go_sem]
  have bx1_3 : (w3.alloc (.cells #[.int .i64 x0, .int .i64 x1, .int .i64 x2, .slice A_g n c_g] 27)).cell? ⟨w3.heap.size, 3, none⟩ = some (.slice A_g n c_g) := by simp [go_sem]
  have bl1 : w3.heap.size < (w3.alloc (.cells #[.int .i64 x0, .int .i64 x1, .int .i64 x2, .slice A_g n c_g] 27)).heap.size := by go_size
  generalize hW0 : (w3.alloc (.cells #[.int .i64 x0, .int .i64 x1, .int .i64 x2, .slice A_g n c_g] 27)) = w4 at *
  clear hW0
  have k4 : Below w.heap.size w w4 := ext_step k3 (by omega) hb
  have p4 := hb.size
  have bx0_0 := ccell hb _ _ _ bx0_0
  have bx0_1 := ccell hb _ _ _ bx0_1
  have bx0_2 := ccell hb _ _ _ bx0_2
  have bx0_3 := ccell hb _ _ _ bx0_3
  have bl0 := Nat.lt_of_lt_of_le bl0 hb.size
  have r_v := r_v.below (hb.mono (by omega))
  have o_v := own_ext o_v hb
  have r_g := r_g.below (hb.mono (by omega))
  have o_g := own_ext o_g hb
  clear hb
  refine (eqPool_c _ _ _ _ _ _ _ _ l _ hn_v (by omega) (r_g.more (by omega)) (r_v.more (by omega))).mono ?_
  rintro e w5 ⟨rfl, hb⟩
  have k5 : Below w.heap.size w w5 := ext_step k4 (by omega) hb
  have p5 := hb.size
  have bx0_0 := ccell hb _ _ _ bx0_0
  have bx0_1 := ccell hb _ _ _ bx0_1
  have bx0_2 := ccell hb _ _ _ bx0_2
  have bx0_3 := ccell hb _ _ _ bx0_3
  have bx1_0 := ccell hb _ _ _ bx1_0
  have bx1_1 := ccell hb _ _ _ bx1_1
  have bx1_2 := ccell hb _ _ _ bx1_2
  have bx1_3 := ccell hb _ _ _ bx1_3
  have bl0 := Nat.lt_of_lt_of_le bl0 hb.size
  have bl1 := Nat.lt_of_lt_of_le bl1 hb.size
  have r_v := r_v.below (hb.mono (by omega))
  have o_v := own_ext o_v hb
  have r_g := r_g.below (hb.mono (by omega))
  have o_g := own_ext o_g hb
  clear hb
  go_wp2_with fail
  refine (markPool_c _ _ _ _ _ _ _ _ _ _ o_g (by omega) (by omega) (by omega)).mono ?_
  rintro e w6 ⟨rfl, om, hg⟩
  have k6 : Below w.heap.size w w6 := below_app k5 (own_base o_g (by omega)) hg (by omega)
  have p6 := hg.size
  have bx0_0 := cell_off hg bx0_0 (fun g h1 => by have := (o_g.lt g h1).1; have := u_g g h1; omega)
  have bx0_1 := cell_off hg bx0_1 (fun g h1 => by have := (o_g.lt g h1).1; have := u_g g h1; omega)
  have bx0_2 := cell_off hg bx0_2 (fun g h1 => by have := (o_g.lt g h1).1; have := u_g g h1; omega)
  have bx0_3 := cell_off hg bx0_3 (fun g h1 => by have := (o_g.lt g h1).1; have := u_g g h1; omega)
  have bx1_0 := cell_off hg bx1_0 (fun g h1 => by have := (o_g.lt g h1).1; have := u_g g h1; omega)
  have bx1_1 := cell_off hg bx1_1 (fun g h1 => by have := (o_g.lt g h1).1; have := u_g g h1; omega)
  have bx1_2 := cell_off hg bx1_2 (fun g h1 => by have := (o_g.lt g h1).1; have := u_g g h1; omega)
  have bx1_3 := cell_off hg bx1_3 (fun g h1 => by have := (o_g.lt g h1).1; have := u_g g h1; omega)
  have bl0 := Nat.lt_of_lt_of_le bl0 hg.size
  have bl1 := Nat.lt_of_lt_of_le bl1 hg.size
  have r_v := r_v.grown hg (by omega) (fun g hg => Nat.le_trans (by omega) (o_g.lt g hg).1)
  have o_v := own_far o_v hg (fun g h1 h2 => by have := u_v g h1; have := (o_g.lt g h2).1; omega)
  have o_g := om
  have r_g := Reads.of_own o_g
  clear hg om
  go_wp2_with fail
  refine (heldPool_c _ _ _ _ _ _ _ _ (r_g.more (by omega)) (by omega) (by omega) (by omega)).mono ?_
  rintro e w7 ⟨rfl, hb⟩
  have k7 : Below w.heap.size w w7 := ext_step k6 (by omega) hb
  have p7 := hb.size
  have bx0_0 := ccell hb _ _ _ bx0_0
  have bx0_1 := ccell hb _ _ _ bx0_1
  have bx0_2 := ccell hb _ _ _ bx0_2
  have bx0_3 := ccell hb _ _ _ bx0_3
  have bx1_0 := ccell hb _ _ _ bx1_0
  have bx1_1 := ccell hb _ _ _ bx1_1
  have bx1_2 := ccell hb _ _ _ bx1_2
  have bx1_3 := ccell hb _ _ _ bx1_3
  have bl0 := Nat.lt_of_lt_of_le bl0 hb.size
  have bl1 := Nat.lt_of_lt_of_le bl1 hb.size
  have r_v := r_v.below (hb.mono (by omega))
  have o_v := own_ext o_v hb
  have r_g := r_g.below (hb.mono (by omega))
  have o_g := own_ext o_g hb
  clear hb
  go_wp2_with fail
  refine (himpl _).mono ?_
  rintro e w8 ⟨A_h, c_h, rfl, o_h, hb⟩
  have k8 : Below w.heap.size w w8 := ext_step k7 (by omega) hb
  have p8 := hb.size
  have bx0_0 := ccell hb _ _ _ bx0_0
  have bx0_1 := ccell hb _ _ _ bx0_1
  have bx0_2 := ccell hb _ _ _ bx0_2
  have bx0_3 := ccell hb _ _ _ bx0_3
  have bx1_0 := ccell hb _ _ _ bx1_0
  have bx1_1 := ccell hb _ _ _ bx1_1
  have bx1_2 := ccell hb _ _ _ bx1_2
  have bx1_3 := ccell hb _ _ _ bx1_3
  have bl0 := Nat.lt_of_lt_of_le bl0 hb.size
  have bl1 := Nat.lt_of_lt_of_le bl1 hb.size
  have r_v := r_v.below (hb.mono (by omega))
  have o_v := own_ext o_v hb
  have r_g := r_g.below (hb.mono (by omega))
  have o_g := own_ext o_g hb
  have r_h := Reads.of_own o_h
  have u_h := fun k hk => (o_h.lt k hk).2
  clear hb
  go_wp2_with fail
  have hb : Below w8.heap.size w8 (w8.alloc (.cells #[.int .i64 x0, .int .i64 x1, .int .i64 x2, .slice A_h n c_h] 27)) := by go_grown
  have bx2_0 : (w8.alloc (.cells #[.int .i64 x0, .int .i64 x1, .int .i64 x2, .slice A_h n c_h] 27)).cell? ⟨w8.heap.size, 0, none⟩ = some (.int .i64 x0) := by simp [go_sem]
  have bx2_1 : (w8.alloc (.cells #[.int .i64 x0, .int .i64 x1, .int .i64 x2, .slice A_h n c_h] 27)).cell? ⟨w8.heap.size, 1, none⟩ = some (.int .i64 x1) := by simp [go_sem]
  have bx2_2 : (w8.alloc (.cells #[.int .i64 x0, .int .i64 x1, .int .i64 x2, .slice A_h n c_h] 27)).cell? ⟨w8.heap.size, 2, none⟩ = some (.int .i64 x2) := by simp [go_sem]
  have bx2_3 : (w8.alloc (.cells #[.int .i64 x0, .int .i64 x1, .int .i64 x2, .slice A_h n c_h] 27)).cell? ⟨w8.heap.size, 3, none⟩ = some (.slice A_h n c_h) := by simp [go_sem]
  have bl2 : w8.heap.size < (w8.alloc (.cells #[.int .i64 x0, .int .i64 x1, .int .i64 x2, .slice A_h n c_h] 27)).heap.size := by go_size
  generalize hW0 : (w8.alloc (.cells #[.int .i64 x0, .int .i64 x1, .int .i64 x2, .slice A_h n c_h] 27)) = w9 at *
  clear hW0
  have k9 : Below w.heap.size w w9 := ext_step k8 (by omega) hb
  have p9 := hb.size
  have bx0_0 := ccell hb _ _ _ bx0_0
  have bx0_1 := ccell hb _ _ _ bx0_1
  have bx0_2 := ccell hb _ _ _ bx0_2
  have bx0_3 := ccell hb _ _ _ bx0_3
  have bx1_0 := ccell hb _ _ _ bx1_0
  have bx1_1 := ccell hb _ _ _ bx1_1
  have bx1_2 := ccell hb _ _ _ bx1_2
  have bx1_3 := ccell hb _ _ _ bx1_3
  have bl0 := Nat.lt_of_lt_of_le bl0 hb.size
  have bl1 := Nat.lt_of_lt_of_le bl1 hb.size
  have r_v := r_v.below (hb.mono (by omega))
  have o_v := own_ext o_v hb
  have r_g := r_g.below (hb.mono (by omega))
  have o_g := own_ext o_g hb
  have r_h := r_h.below (hb.mono (by omega))
  have o_h := own_ext o_h hb
  clear hb
  refine (eqPool_c _ _ _ _ _ _ _ _ l _ hn_v (by omega) (r_h.more (by omega)) (r_v.more (by omega))).mono ?_
  rintro e w10 ⟨rfl, hb⟩
  have k10 : Below w.heap.size w w10 := ext_step k9 (by omega) hb
  have p10 := hb.size
  have bx0_0 := ccell hb _ _ _ bx0_0
  have bx0_1 := ccell hb _ _ _ bx0_1
  have bx0_2 := ccell hb _ _ _ bx0_2
  have bx0_3 := ccell hb _ _ _ bx0_3
  have bx1_0 := ccell hb _ _ _ bx1_0
  have bx1_1 := ccell hb _ _ _ bx1_1
  have bx1_2 := ccell hb _ _ _ bx1_2
  have bx1_3 := ccell hb _ _ _ bx1_3
  have bx2_0 := ccell hb _ _ _ bx2_0
  have bx2_1 := ccell hb _ _ _ bx2_1
  have bx2_2 := ccell hb _ _ _ bx2_2
  have bx2_3 := ccell hb _ _ _ bx2_3
  have bl0 := Nat.lt_of_lt_of_le bl0 hb.size
  have bl1 := Nat.lt_of_lt_of_le bl1 hb.size
  have bl2 := Nat.lt_of_lt_of_le bl2 hb.size
  have r_v := r_v.below (hb.mono (by omega))
  have o_v := own_ext o_v hb
  have r_g := r_g.below (hb.mono (by omega))
  have o_g := own_ext o_g hb
  have r_h := r_h.below (hb.mono (by omega))
  have o_h := own_ext o_h hb
  clear hb
  go_wp2_with fail
  refine (heldPool_c _ _ _ _ _ _ _ _ (r_g.more (by omega)) (by omega) (by omega) (by omega)).mono ?_
  rintro e w11 ⟨rfl, hb⟩
  have k11 : Below w.heap.size w w11 := ext_step k10 (by omega) hb
  have p11 := hb.size
  have bx0_0 := ccell hb _ _ _ bx0_0
  have bx0_1 := ccell hb _ _ _ bx0_1
  have bx0_2 := ccell hb _ _ _ bx0_2
  have bx0_3 := ccell hb _ _ _ bx0_3
  have bx1_0 := ccell hb _ _ _ bx1_0
  have bx1_1 := ccell hb _ _ _ bx1_1
  have bx1_2 := ccell hb _ _ _ bx1_2
  have bx1_3 := ccell hb _ _ _ bx1_3
  have bx2_0 := ccell hb _ _ _ bx2_0
  have bx2_1 := ccell hb _ _ _ bx2_1
  have bx2_2 := ccell hb _ _ _ bx2_2
  have bx2_3 := ccell hb _ _ _ bx2_3
  have bl0 := Nat.lt_of_lt_of_le bl0 hb.size
  have bl1 := Nat.lt_of_lt_of_le bl1 hb.size
  have bl2 := Nat.lt_of_lt_of_le bl2 hb.size
  have r_g := r_g.below (hb.mono (by omega))
  have o_g := own_ext o_g hb
  clear hb
  go_wp2
  go_ret
  exact ⟨rfl, k11⟩
end Go.Proofs.Ytojkakafomieiaa
