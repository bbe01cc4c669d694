/- The walk of laws.FnExactTakeBuffers. -/
import Derived.Test.YtojkakafomieiaaConvPool
import Derived.Test.YtojkakafomieiaaTakeBufS
import Derived.Deep.RegionHeld3
namespace Go.Proofs.Ytojkakafomieiaa
set_option linter.unusedSimpArgs false
set_option linter.unusedVariables false
open Go.RowKit Go.ChangeShapes Go.WideShapes
theorem tkF_len (base size count : Int) (l : List Int) (x : Int) : (tkF base size count l x).length ≤ l.length := by
  unfold tkF; split <;> simp
theorem tkL_len (base size count : Int) (l : List Int) (x : Int) : (tkL base size count l x).length ≤ l.length := by
  unfold tkL; split <;> simp <;> omega
set_option maxRecDepth 100000 in
set_option maxHeartbeats 8000000 in
theorem fnExactTakeBuffers_walk (base size count : Int) (A : Option Addr) (n c : Nat) (l : List Int) (x : Int) (w : World) (hb0 : I64 base) (hb1 : I64 size) (hb2 : I64 count) (hs : SlInt w A n c l) (hx : I64 x) :
    Calls Try.prog 6 #[.agg #[.int .i64 base, .int .i64 size, .int .i64 count, .slice A n c], .int .i64 x] w fun e w' => e = .returned (.bool true) ∧ Below w.heap.size w w' := by
  obtain ⟨⟨hn_a, hnc_a, hc_a, r_a⟩, hb_a⟩ := hs
  have hspec := fun A c w => fun (hm : n ≤ 1048576) (hnc : n ≤ c) hr => specTakeBuffers_c base size count A n c l w hn_a hm hnc hr x
  have himpl := fun A c w => fun (hm : n ≤ 1048576) (hnc : n ≤ c) hr => implTakeBuffers_c base size count A n c l w hn_a hm hnc hr x
  have hjn := tkF_len base size count l x
  have hin := tkL_len base size count l x
  rw [hn_a] at hjn hin
  generalize tkF base size count l x = lf at *
  generalize tkL base size count l x = ll at *
  generalize tkOk base size count l x = bo at *
  obtain ⟨j, hn_v⟩ : ∃ j, lf.length = j := ⟨_, rfl⟩
  obtain ⟨i, hn_u⟩ : ∃ i, ll.length = i := ⟨_, rfl⟩
  simp only [hn_v, hn_u] at hspec himpl hjn hin
  by_cases hz_a : (1048576 : Int) - n < 0
  · skip
    have hi_a := Lib.hid (szI_neg hz_a)
    go_enter Try.func6, Try.ntmps6
    go_wp2_with fail
    have k0 : Below w.heap.size w (w.alloc (.cells #[.int .i64 base, .int .i64 size, .int .i64 count, .slice A n c] 24)) := by go_grown
    have bx0_0 : (w.alloc (.cells #[.int .i64 base, .int .i64 size, .int .i64 count, .slice A n c] 24)).cell? ⟨w.heap.size, 0, none⟩ = some (.int .i64 base) := by simp [go_sem]
    have bx0_1 : (w.alloc (.cells #[.int .i64 base, .int .i64 size, .int .i64 count, .slice A n c] 24)).cell? ⟨w.heap.size, 1, none⟩ = some (.int .i64 size) := by simp [go_sem]
    have bx0_2 : (w.alloc (.cells #[.int .i64 base, .int .i64 size, .int .i64 count, .slice A n c] 24)).cell? ⟨w.heap.size, 2, none⟩ = some (.int .i64 count) := by simp [go_sem]
    have bx0_3 : (w.alloc (.cells #[.int .i64 base, .int .i64 size, .int .i64 count, .slice A n c] 24)).cell? ⟨w.heap.size, 3, none⟩ = some (.slice A n c) := by simp [go_sem]
    have bl0 : w.heap.size < (w.alloc (.cells #[.int .i64 base, .int .i64 size, .int .i64 count, .slice A n c] 24)).heap.size := by go_size
    have r_a := r_a.below k0
    have p0 := k0.size
    generalize hW0 : (w.alloc (.cells #[.int .i64 base, .int .i64 size, .int .i64 count, .slice A n c] 24)) = w0 at *
    clear hW0
    refine (szPool_c _ _ _ _ _ _ (1048576 : Int) _ (by omega) (by omega) (by omega)).mono ?_
    rintro e w1 ⟨rfl, hb⟩
    have k1 : Below w.heap.size w w1 := ext_step k0 (by omega) hb
    have p1 := hb.size
    have bx0_0 := ccell hb _ _ _ bx0_0
    have bx0_1 := ccell hb _ _ _ bx0_1
    have bx0_2 := ccell hb _ _ _ bx0_2
    have bx0_3 := ccell hb _ _ _ bx0_3
    have bl0 := Nat.lt_of_lt_of_le bl0 hb.size
    have r_a := r_a.below (hb.mono (by omega))
    rw [hi_a.out]
    clear hb
    go_wp2
    go_ret
    exact ⟨rfl, k1⟩
  have hi_a := Lib.hid (szI_nn hz_a)
  go_enter Try.func6, Try.ntmps6
  go_wp2_with fail
  have k0 : Below w.heap.size w (w.alloc (.cells #[.int .i64 base, .int .i64 size, .int .i64 count, .slice A n c] 24)) := by go_grown
  have bx0_0 : (w.alloc (.cells #[.int .i64 base, .int .i64 size, .int .i64 count, .slice A n c] 24)).cell? ⟨w.heap.size, 0, none⟩ = some (.int .i64 base) := by simp [go_sem]
  have bx0_1 : (w.alloc (.cells #[.int .i64 base, .int .i64 size, .int .i64 count, .slice A n c] 24)).cell? ⟨w.heap.size, 1, none⟩ = some (.int .i64 size) := by simp [go_sem]
  have bx0_2 : (w.alloc (.cells #[.int .i64 base, .int .i64 size, .int .i64 count, .slice A n c] 24)).cell? ⟨w.heap.size, 2, none⟩ = some (.int .i64 count) := by simp [go_sem]
  have bx0_3 : (w.alloc (.cells #[.int .i64 base, .int .i64 size, .int .i64 count, .slice A n c] 24)).cell? ⟨w.heap.size, 3, none⟩ = some (.slice A n c) := by simp [go_sem]
  have bl0 : w.heap.size < (w.alloc (.cells #[.int .i64 base, .int .i64 size, .int .i64 count, .slice A n c] 24)).heap.size := by go_size
  have r_a := r_a.below k0
  have p0 := k0.size
  generalize hW0 : (w.alloc (.cells #[.int .i64 base, .int .i64 size, .int .i64 count, .slice A n c] 24)) = w0 at *
  clear hW0
  refine (szPool_c _ _ _ _ _ _ (1048576 : Int) _ (by omega) (by omega) (by omega)).mono ?_
  rintro e w1 ⟨rfl, hb⟩
  have k1 : Below w.heap.size w w1 := ext_step k0 (by omega) hb
  have p1 := hb.size
  have bx0_0 := ccell hb _ _ _ bx0_0
  have bx0_1 := ccell hb _ _ _ bx0_1
  have bx0_2 := ccell hb _ _ _ bx0_2
  have bx0_3 := ccell hb _ _ _ bx0_3
  have bl0 := Nat.lt_of_lt_of_le bl0 hb.size
  have r_a := r_a.below (hb.mono (by omega))
  rw [hi_a.out]
  clear hb
  have hs_a : n ≤ 1048576 := by omega
  have hj := hjn
  have hi := hin
  go_wp2_with fail
  refine (toPool_c _ _ _ _ _ _ l _ hn_a hs_a (r_a.more (by omega))).mono ?_
  rintro e w2 ⟨g_t, rfl, hg_t, b_t, hb⟩
  have k2 : Below w.heap.size w w2 := ext_step k1 (by omega) hb
  have p2 := hb.size
  have bx0_0 := ccell hb _ _ _ bx0_0
  have bx0_1 := ccell hb _ _ _ bx0_1
  have bx0_2 := ccell hb _ _ _ bx0_2
  have bx0_3 := ccell hb _ _ _ bx0_3
  have bl0 := Nat.lt_of_lt_of_le bl0 hb.size
  have r_a := r_a.below (hb.mono (by omega))
  have r_t := b_t.reads (size := 1) (n := n) (by rw [flatMap_len _ 1 (fun _ => rfl), hn_a])
  have o_t := b_t.own (base := w1.heap.size) (size := 1) (n := n) hg_t (by rw [flatMap_len _ 1 (fun _ => rfl), hn_a]) (by unfold maxLen; omega) rfl
  have u_t := fun k hk => (o_t.lt k hk).2
  clear hb
  go_wp2_with fail
  refine (hspec _ _ _ hs_a (Nat.le_refl _) (r_t.more (by omega))).mono ?_
  rintro e w3 ⟨A_v, c_v, A_u, c_u, rfl, o_v, o_u, hb⟩
  have k3 : Below w.heap.size w w3 := ext_step k2 (by omega) hb
  have p3 := hb.size
  have bx0_0 := ccell hb _ _ _ bx0_0
  have bx0_1 := ccell hb _ _ _ bx0_1
  have bx0_2 := ccell hb _ _ _ bx0_2
  have bx0_3 := ccell hb _ _ _ bx0_3
  have bl0 := Nat.lt_of_lt_of_le bl0 hb.size
  have r_a := r_a.below (hb.mono (by omega))
  have r_t := r_t.below (hb.mono (by omega))
  have o_t := own_ext o_t hb
  have r_v := Reads.of_own o_v
  have u_v := fun k hk => (o_v.lt k hk).2
  have r_u := Reads.of_own o_u
  have u_u := fun k hk => (o_u.lt k hk).2
  clear hb
  go_wp2_with fail
  have hb : Below w3.heap.size w3 (w3.alloc (.cells #[.int .i64 base, .int .i64 size, .int .i64 count, .slice A_v j c_v] 27)) := by go_grown
  have bx1_0 : (w3.alloc (.cells #[.int .i64 base, .int .i64 size, .int .i64 count, .slice A_v j c_v] 27)).cell? ⟨w3.heap.size, 0, none⟩ = some (.int .i64 base) := by simp [go_sem]
  have bx1_1 : (w3.alloc (.cells #[.int .i64 base, .int .i64 size, .int .i64 count, .slice A_v j c_v] 27)).cell? ⟨w3.heap.size, 1, none⟩ = some (.int .i64 size) := by simp [go_sem]
  have bx1_2 : (w3.alloc (.cells #[.int .i64 base, .int .i64 size, .int .i64 count, .slice A_v j c_v] 27)).cell? ⟨w3.heap.size, 2, none⟩ = some (.int .i64 count) := by simp [go_sem]
  have bx1_3 : (w3.alloc (.cells #[.int .i64 base, .int .i64 size, .int .i64 count, .slice A_v j c_v] 27)).cell? ⟨w3.heap.size, 3, none⟩ = some (.slice A_v j c_v) := by simp [go_sem]
  have bl1 : w3.heap.size < (w3.alloc (.cells #[.int .i64 base, .int .i64 size, .int .i64 count, .slice A_v j c_v] 27)).heap.size := by go_size
  generalize hW0 : (w3.alloc (.cells #[.int .i64 base, .int .i64 size, .int .i64 count, .slice A_v j c_v] 27)) = w4 at *
  clear hW0
  have k4 : Below w.heap.size w w4 := ext_step k3 (by omega) hb
  have p4 := hb.size
  have bx0_0 := ccell hb _ _ _ bx0_0
  have bx0_1 := ccell hb _ _ _ bx0_1
  have bx0_2 := ccell hb _ _ _ bx0_2
  have bx0_3 := ccell hb _ _ _ bx0_3
  have bl0 := Nat.lt_of_lt_of_le bl0 hb.size
  have r_a := r_a.below (hb.mono (by omega))
  have r_v := r_v.below (hb.mono (by omega))
  have o_v := own_ext o_v hb
  have r_u := r_u.below (hb.mono (by omega))
  have o_u := own_ext o_u hb
  clear hb
  refine (toPool_c _ _ _ _ _ _ l _ hn_a hs_a (r_a.more (by omega))).mono ?_
  rintro e w5 ⟨g_x, rfl, hg_x, b_x, hb⟩
  have k5 : Below w.heap.size w w5 := ext_step k4 (by omega) hb
  have p5 := hb.size
  have bx0_0 := ccell hb _ _ _ bx0_0
  have bx0_1 := ccell hb _ _ _ bx0_1
  have bx0_2 := ccell hb _ _ _ bx0_2
  have bx0_3 := ccell hb _ _ _ bx0_3
  have bx1_0 := ccell hb _ _ _ bx1_0
  have bx1_1 := ccell hb _ _ _ bx1_1
  have bx1_2 := ccell hb _ _ _ bx1_2
  have bx1_3 := ccell hb _ _ _ bx1_3
  have bl0 := Nat.lt_of_lt_of_le bl0 hb.size
  have bl1 := Nat.lt_of_lt_of_le bl1 hb.size
  have r_a := r_a.below (hb.mono (by omega))
  have r_v := r_v.below (hb.mono (by omega))
  have o_v := own_ext o_v hb
  have r_u := r_u.below (hb.mono (by omega))
  have o_u := own_ext o_u hb
  have r_x := b_x.reads (size := 1) (n := n) (by rw [flatMap_len _ 1 (fun _ => rfl), hn_a])
  have o_x := b_x.own (base := w4.heap.size) (size := 1) (n := n) hg_x (by rw [flatMap_len _ 1 (fun _ => rfl), hn_a]) (by unfold maxLen; omega) rfl
  have u_x := fun k hk => (o_x.lt k hk).2
  clear hb
  go_wp2_with fail
  have hb : Below w5.heap.size w5 (w5.alloc (.cells #[.int .i64 base, .int .i64 size, .int .i64 count, .slice (some ⟨g_x, 0, none⟩) n n] 27)) := by go_grown
  have bx2_0 : (w5.alloc (.cells #[.int .i64 base, .int .i64 size, .int .i64 count, .slice (some ⟨g_x, 0, none⟩) n n] 27)).cell? ⟨w5.heap.size, 0, none⟩ = some (.int .i64 base) := by simp [go_sem]
  have bx2_1 : (w5.alloc (.cells #[.int .i64 base, .int .i64 size, .int .i64 count, .slice (some ⟨g_x, 0, none⟩) n n] 27)).cell? ⟨w5.heap.size, 1, none⟩ = some (.int .i64 size) := by simp [go_sem]
  have bx2_2 : (w5.alloc (.cells #[.int .i64 base, .int .i64 size, .int .i64 count, .slice (some ⟨g_x, 0, none⟩) n n] 27)).cell? ⟨w5.heap.size, 2, none⟩ = some (.int .i64 count) := by simp [go_sem]
  have bx2_3 : (w5.alloc (.cells #[.int .i64 base, .int .i64 size, .int .i64 count, .slice (some ⟨g_x, 0, none⟩) n n] 27)).cell? ⟨w5.heap.size, 3, none⟩ = some (.slice (some ⟨g_x, 0, none⟩) n n) := by simp [go_sem]
  have bl2 : w5.heap.size < (w5.alloc (.cells #[.int .i64 base, .int .i64 size, .int .i64 count, .slice (some ⟨g_x, 0, none⟩) n n] 27)).heap.size := by go_size
  generalize hW0 : (w5.alloc (.cells #[.int .i64 base, .int .i64 size, .int .i64 count, .slice (some ⟨g_x, 0, none⟩) n n] 27)) = w6 at *
  clear hW0
  have k6 : Below w.heap.size w w6 := ext_step k5 (by omega) hb
  have p6 := hb.size
  have bx0_0 := ccell hb _ _ _ bx0_0
  have bx0_1 := ccell hb _ _ _ bx0_1
  have bx0_2 := ccell hb _ _ _ bx0_2
  have bx0_3 := ccell hb _ _ _ bx0_3
  have bx1_0 := ccell hb _ _ _ bx1_0
  have bx1_1 := ccell hb _ _ _ bx1_1
  have bx1_2 := ccell hb _ _ _ bx1_2
  have bx1_3 := ccell hb _ _ _ bx1_3
  have bl0 := Nat.lt_of_lt_of_le bl0 hb.size
  have bl1 := Nat.lt_of_lt_of_le bl1 hb.size
  have r_a := r_a.below (hb.mono (by omega))
  have r_v := r_v.below (hb.mono (by omega))
  have o_v := own_ext o_v hb
  have r_u := r_u.below (hb.mono (by omega))
  have o_u := own_ext o_u hb
  have r_x := r_x.below (hb.mono (by omega))
  have o_x := own_ext o_x hb
  clear hb
  refine (himpl _ _ _ hs_a (Nat.le_refl _) (r_x.more (by omega))).mono ?_
  rintro e w7 ⟨A_g, c_g, A_k, c_k, m_g, rfl, o_g, u_g, hm_g, o_k, hb⟩
  have k7 : Below w.heap.size w w7 := ext_step k6 (by omega) hb
  have p7 := hb.size
  have bx0_0 := ccell hb _ _ _ bx0_0
  have bx0_1 := ccell hb _ _ _ bx0_1
  have bx0_2 := ccell hb _ _ _ bx0_2
  have bx0_3 := ccell hb _ _ _ bx0_3
  have bx1_0 := ccell hb _ _ _ bx1_0
  have bx1_1 := ccell hb _ _ _ bx1_1
  have bx1_2 := ccell hb _ _ _ bx1_2
  have bx1_3 := ccell hb _ _ _ bx1_3
  have bx2_0 := ccell hb _ _ _ bx2_0
  have bx2_1 := ccell hb _ _ _ bx2_1
  have bx2_2 := ccell hb _ _ _ bx2_2
  have bx2_3 := ccell hb _ _ _ bx2_3
  have bl0 := Nat.lt_of_lt_of_le bl0 hb.size
  have bl1 := Nat.lt_of_lt_of_le bl1 hb.size
  have bl2 := Nat.lt_of_lt_of_le bl2 hb.size
  have r_a := r_a.below (hb.mono (by omega))
  have r_v := r_v.below (hb.mono (by omega))
  have o_v := own_ext o_v hb
  have r_u := r_u.below (hb.mono (by omega))
  have o_u := own_ext o_u hb
  have r_x := r_x.below (hb.mono (by omega))
  have o_x := own_ext o_x hb
  have r_g := Reads.of_own o_g
  have v_g := fun k hk => (o_g.lt k hk).2
  have r_k := Reads.of_own o_k
  have u_k := fun k hk => (o_k.lt k hk).2
  clear hb
  go_wp2_with fail
  have hb : Below w7.heap.size w7 (w7.alloc (.cells #[.int .i64 base, .int .i64 size, .int .i64 count, .slice A_g j c_g] 27)) := by go_grown
  have bx3_0 : (w7.alloc (.cells #[.int .i64 base, .int .i64 size, .int .i64 count, .slice A_g j c_g] 27)).cell? ⟨w7.heap.size, 0, none⟩ = some (.int .i64 base) := by simp [go_sem]
  have bx3_1 : (w7.alloc (.cells #[.int .i64 base, .int .i64 size, .int .i64 count, .slice A_g j c_g] 27)).cell? ⟨w7.heap.size, 1, none⟩ = some (.int .i64 size) := by simp [go_sem]
  have bx3_2 : (w7.alloc (.cells #[.int .i64 base, .int .i64 size, .int .i64 count, .slice A_g j c_g] 27)).cell? ⟨w7.heap.size, 2, none⟩ = some (.int .i64 count) := by simp [go_sem]
  have bx3_3 : (w7.alloc (.cells #[.int .i64 base, .int .i64 size, .int .i64 count, .slice A_g j c_g] 27)).cell? ⟨w7.heap.size, 3, none⟩ = some (.slice A_g j c_g) := by simp [go_sem]
  have bl3 : w7.heap.size < (w7.alloc (.cells #[.int .i64 base, .int .i64 size, .int .i64 count, .slice A_g j c_g] 27)).heap.size := by go_size
  generalize hW0 : (w7.alloc (.cells #[.int .i64 base, .int .i64 size, .int .i64 count, .slice A_g j c_g] 27)) = w8 at *
  clear hW0
  have k8 : Below w.heap.size w w8 := ext_step k7 (by omega) hb
  have p8 := hb.size
  have bx0_0 := ccell hb _ _ _ bx0_0
  have bx0_1 := ccell hb _ _ _ bx0_1
  have bx0_2 := ccell hb _ _ _ bx0_2
  have bx0_3 := ccell hb _ _ _ bx0_3
  have bx1_0 := ccell hb _ _ _ bx1_0
  have bx1_1 := ccell hb _ _ _ bx1_1
  have bx1_2 := ccell hb _ _ _ bx1_2
  have bx1_3 := ccell hb _ _ _ bx1_3
  have bx2_0 := ccell hb _ _ _ bx2_0
  have bx2_1 := ccell hb _ _ _ bx2_1
  have bx2_2 := ccell hb _ _ _ bx2_2
  have bx2_3 := ccell hb _ _ _ bx2_3
  have bl0 := Nat.lt_of_lt_of_le bl0 hb.size
  have bl1 := Nat.lt_of_lt_of_le bl1 hb.size
  have bl2 := Nat.lt_of_lt_of_le bl2 hb.size
  have r_a := r_a.below (hb.mono (by omega))
  have r_v := r_v.below (hb.mono (by omega))
  have o_v := own_ext o_v hb
  have r_u := r_u.below (hb.mono (by omega))
  have o_u := own_ext o_u hb
  have r_x := r_x.below (hb.mono (by omega))
  have o_x := own_ext o_x hb
  have r_g := r_g.below (hb.mono (by omega))
  have o_g := own_ext o_g hb
  have r_k := r_k.below (hb.mono (by omega))
  have o_k := own_ext o_k hb
  clear hb
  refine (eqPool_c _ _ _ _ _ _ _ _ lf _ hn_v (by omega) (r_g.more (by omega)) (r_v.more (by omega))).mono ?_
  rintro e w9 ⟨rfl, hb⟩
  have k9 : Below w.heap.size w w9 := ext_step k8 (by omega) hb
  have p9 := hb.size
  have bx0_0 := ccell hb _ _ _ bx0_0
  have bx0_1 := ccell hb _ _ _ bx0_1
  have bx0_2 := ccell hb _ _ _ bx0_2
  have bx0_3 := ccell hb _ _ _ bx0_3
  have bx1_0 := ccell hb _ _ _ bx1_0
  have bx1_1 := ccell hb _ _ _ bx1_1
  have bx1_2 := ccell hb _ _ _ bx1_2
  have bx1_3 := ccell hb _ _ _ bx1_3
  have bx2_0 := ccell hb _ _ _ bx2_0
  have bx2_1 := ccell hb _ _ _ bx2_1
  have bx2_2 := ccell hb _ _ _ bx2_2
  have bx2_3 := ccell hb _ _ _ bx2_3
  have bx3_0 := ccell hb _ _ _ bx3_0
  have bx3_1 := ccell hb _ _ _ bx3_1
  have bx3_2 := ccell hb _ _ _ bx3_2
  have bx3_3 := ccell hb _ _ _ bx3_3
  have bl0 := Nat.lt_of_lt_of_le bl0 hb.size
  have bl1 := Nat.lt_of_lt_of_le bl1 hb.size
  have bl2 := Nat.lt_of_lt_of_le bl2 hb.size
  have bl3 := Nat.lt_of_lt_of_le bl3 hb.size
  have r_a := r_a.below (hb.mono (by omega))
  have r_v := r_v.below (hb.mono (by omega))
  have o_v := own_ext o_v hb
  have r_u := r_u.below (hb.mono (by omega))
  have o_u := own_ext o_u hb
  have r_x := r_x.below (hb.mono (by omega))
  have o_x := own_ext o_x hb
  have r_g := r_g.below (hb.mono (by omega))
  have o_g := own_ext o_g hb
  have r_k := r_k.below (hb.mono (by omega))
  have o_k := own_ext o_k hb
  clear hb
  go_wp2_with fail
  refine (eqIntS_c _ _ _ _ _ ll _ hn_u (by omega) (r_k.more (by omega)) (r_u.more (by omega))).mono ?_
  rintro e w10 ⟨rfl, hb⟩
  have k10 : Below w.heap.size w w10 := ext_step k9 (by omega) hb
  have p10 := hb.size
  have bx0_0 := ccell hb _ _ _ bx0_0
  have bx0_1 := ccell hb _ _ _ bx0_1
  have bx0_2 := ccell hb _ _ _ bx0_2
  have bx0_3 := ccell hb _ _ _ bx0_3
  have bx1_0 := ccell hb _ _ _ bx1_0
  have bx1_1 := ccell hb _ _ _ bx1_1
  have bx1_2 := ccell hb _ _ _ bx1_2
  have bx1_3 := ccell hb _ _ _ bx1_3
  have bx2_0 := ccell hb _ _ _ bx2_0
  have bx2_1 := ccell hb _ _ _ bx2_1
  have bx2_2 := ccell hb _ _ _ bx2_2
  have bx2_3 := ccell hb _ _ _ bx2_3
  have bx3_0 := ccell hb _ _ _ bx3_0
  have bx3_1 := ccell hb _ _ _ bx3_1
  have bx3_2 := ccell hb _ _ _ bx3_2
  have bx3_3 := ccell hb _ _ _ bx3_3
  have bl0 := Nat.lt_of_lt_of_le bl0 hb.size
  have bl1 := Nat.lt_of_lt_of_le bl1 hb.size
  have bl2 := Nat.lt_of_lt_of_le bl2 hb.size
  have bl3 := Nat.lt_of_lt_of_le bl3 hb.size
  have r_a := r_a.below (hb.mono (by omega))
  have r_v := r_v.below (hb.mono (by omega))
  have o_v := own_ext o_v hb
  have r_u := r_u.below (hb.mono (by omega))
  have o_u := own_ext o_u hb
  have r_x := r_x.below (hb.mono (by omega))
  have o_x := own_ext o_x hb
  have r_g := r_g.below (hb.mono (by omega))
  have o_g := own_ext o_g hb
  have r_k := r_k.below (hb.mono (by omega))
  have o_k := own_ext o_k hb
  clear hb
  go_wp2_with fail
  go_region_held3 (fun w' => w'.cell? ⟨w5.heap.size, 0, none⟩ = some (.int .i64 base) ∧ w'.cell? ⟨w5.heap.size, 1, none⟩ = some (.int .i64 size) ∧ w'.cell? ⟨w5.heap.size, 2, none⟩ = some (.int .i64 count) ∧ w'.cell? ⟨w5.heap.size, 3, none⟩ = some (.slice (some ⟨g_x, 0, none⟩) n n) ∧ w'.cell? ⟨w.heap.size, 0, none⟩ = some (.int .i64 base) ∧ w'.cell? ⟨w.heap.size, 1, none⟩ = some (.int .i64 size) ∧ w'.cell? ⟨w.heap.size, 2, none⟩ = some (.int .i64 count) ∧ w'.cell? ⟨w.heap.size, 3, none⟩ = some (.slice A n c)) (exact ⟨bx2_0, bx2_1, bx2_2, bx2_3, bx0_0, bx0_1, bx0_2, bx0_3⟩)
    (first
      | (go_at_call 17; have hb : Below w10.heap.size w10 w10.drew := (Below.refl _ _).drew; generalize hW0 : w10.drew = w11 at *; clear hW0; have k11 : Below w.heap.size w w11 := ext_step k10 (by omega) hb; have p11 := hb.size; have bx0_0 := ccell hb _ _ _ bx0_0; have bx0_1 := ccell hb _ _ _ bx0_1; have bx0_2 := ccell hb _ _ _ bx0_2; have bx0_3 := ccell hb _ _ _ bx0_3; have bx1_0 := ccell hb _ _ _ bx1_0; have bx1_1 := ccell hb _ _ _ bx1_1; have bx1_2 := ccell hb _ _ _ bx1_2; have bx1_3 := ccell hb _ _ _ bx1_3; have bx2_0 := ccell hb _ _ _ bx2_0; have bx2_1 := ccell hb _ _ _ bx2_1; have bx2_2 := ccell hb _ _ _ bx2_2; have bx2_3 := ccell hb _ _ _ bx2_3; have bx3_0 := ccell hb _ _ _ bx3_0; have bx3_1 := ccell hb _ _ _ bx3_1; have bx3_2 := ccell hb _ _ _ bx3_2; have bx3_3 := ccell hb _ _ _ bx3_3; have bl0 := Nat.lt_of_lt_of_le bl0 hb.size; have bl1 := Nat.lt_of_lt_of_le bl1 hb.size; have bl2 := Nat.lt_of_lt_of_le bl2 hb.size; have bl3 := Nat.lt_of_lt_of_le bl3 hb.size; have r_a := r_a.below (hb.mono (by omega)); have r_v := r_v.below (hb.mono (by omega)); have o_v := own_ext o_v hb; have r_u := r_u.below (hb.mono (by omega)); have o_u := own_ext o_u hb; have r_x := r_x.below (hb.mono (by omega)); have o_x := own_ext o_x hb; have r_g := r_g.below (hb.mono (by omega)); have o_g := own_ext o_g hb; have r_k := r_k.below (hb.mono (by omega)); have o_k := own_ext o_k hb; clear hb; refine (toPool_c _ _ _ _ _ _ l _ hn_a hs_a (r_a.more (by omega))).mono ?_; rintro e w12 ⟨g_z, rfl, hg_z, b_z, hb⟩; have k12 : Below w.heap.size w w12 := ext_step k11 (by omega) hb; have p12 := hb.size; have bx0_0 := ccell hb _ _ _ bx0_0; have bx0_1 := ccell hb _ _ _ bx0_1; have bx0_2 := ccell hb _ _ _ bx0_2; have bx0_3 := ccell hb _ _ _ bx0_3; have bx1_0 := ccell hb _ _ _ bx1_0; have bx1_1 := ccell hb _ _ _ bx1_1; have bx1_2 := ccell hb _ _ _ bx1_2; have bx1_3 := ccell hb _ _ _ bx1_3; have bx2_0 := ccell hb _ _ _ bx2_0; have bx2_1 := ccell hb _ _ _ bx2_1; have bx2_2 := ccell hb _ _ _ bx2_2; have bx2_3 := ccell hb _ _ _ bx2_3; have bx3_0 := ccell hb _ _ _ bx3_0; have bx3_1 := ccell hb _ _ _ bx3_1; have bx3_2 := ccell hb _ _ _ bx3_2; have bx3_3 := ccell hb _ _ _ bx3_3; have bl0 := Nat.lt_of_lt_of_le bl0 hb.size; have bl1 := Nat.lt_of_lt_of_le bl1 hb.size; have bl2 := Nat.lt_of_lt_of_le bl2 hb.size; have bl3 := Nat.lt_of_lt_of_le bl3 hb.size; have r_a := r_a.below (hb.mono (by omega)); have r_v := r_v.below (hb.mono (by omega)); have o_v := own_ext o_v hb; have r_u := r_u.below (hb.mono (by omega)); have o_u := own_ext o_u hb; have r_x := r_x.below (hb.mono (by omega)); have o_x := own_ext o_x hb; have r_g := r_g.below (hb.mono (by omega)); have o_g := own_ext o_g hb; have r_k := r_k.below (hb.mono (by omega)); have o_k := own_ext o_k hb; have r_z := b_z.reads (size := 1) (n := n) (by rw [flatMap_len _ 1 (fun _ => rfl), hn_a]); have o_z := b_z.own (base := w11.heap.size) (size := 1) (n := n) hg_z (by rw [flatMap_len _ 1 (fun _ => rfl), hn_a]) (by unfold maxLen; omega) rfl; have u_z := fun k hk => (o_z.lt k hk).2; clear hb)
      | (go_at_call 19; refine (eqPool_c _ _ _ _ _ _ _ _ l _ hn_a (by omega) (r_x.more (by omega)) (r_z.more (by omega))).mono ?_; rintro e w13 ⟨rfl, hb⟩; have k13 : Below w.heap.size w w13 := ext_step k12 (by omega) hb; have p13 := hb.size; have bx0_0 := ccell hb _ _ _ bx0_0; have bx0_1 := ccell hb _ _ _ bx0_1; have bx0_2 := ccell hb _ _ _ bx0_2; have bx0_3 := ccell hb _ _ _ bx0_3; have bx1_0 := ccell hb _ _ _ bx1_0; have bx1_1 := ccell hb _ _ _ bx1_1; have bx1_2 := ccell hb _ _ _ bx1_2; have bx1_3 := ccell hb _ _ _ bx1_3; have bx2_0 := ccell hb _ _ _ bx2_0; have bx2_1 := ccell hb _ _ _ bx2_1; have bx2_2 := ccell hb _ _ _ bx2_2; have bx2_3 := ccell hb _ _ _ bx2_3; have bx3_0 := ccell hb _ _ _ bx3_0; have bx3_1 := ccell hb _ _ _ bx3_1; have bx3_2 := ccell hb _ _ _ bx3_2; have bx3_3 := ccell hb _ _ _ bx3_3; have bl0 := Nat.lt_of_lt_of_le bl0 hb.size; have bl1 := Nat.lt_of_lt_of_le bl1 hb.size; have bl2 := Nat.lt_of_lt_of_le bl2 hb.size; have bl3 := Nat.lt_of_lt_of_le bl3 hb.size; have r_a := r_a.below (hb.mono (by omega)); have r_v := r_v.below (hb.mono (by omega)); have o_v := own_ext o_v hb; have r_u := r_u.below (hb.mono (by omega)); have o_u := own_ext o_u hb; have r_x := r_x.below (hb.mono (by omega)); have o_x := own_ext o_x hb; have r_g := r_g.below (hb.mono (by omega)); have o_g := own_ext o_g hb; have r_k := r_k.below (hb.mono (by omega)); have o_k := own_ext o_k hb; have r_z := r_z.below (hb.mono (by omega)); have o_z := own_ext o_z hb; clear hb))
  go_wp2_with fail
  refine (markPool_c _ _ _ _ _ _ _ _ _ _ o_x (by omega) (by omega) (by omega)).mono ?_
  rintro e w14 ⟨rfl, om, hg⟩
  have k14 : Below w.heap.size w w14 := below_app k13 (own_base o_x (by omega)) hg (by omega)
  have p14 := hg.size
  have bx0_0 := cell_off hg bx0_0 (fun g h1 => by have := (o_x.lt g h1).1; have := u_x g h1; omega)
  have bx0_1 := cell_off hg bx0_1 (fun g h1 => by have := (o_x.lt g h1).1; have := u_x g h1; omega)
  have bx0_2 := cell_off hg bx0_2 (fun g h1 => by have := (o_x.lt g h1).1; have := u_x g h1; omega)
  have bx0_3 := cell_off hg bx0_3 (fun g h1 => by have := (o_x.lt g h1).1; have := u_x g h1; omega)
  have bx1_0 := cell_off hg bx1_0 (fun g h1 => by have := (o_x.lt g h1).1; have := u_x g h1; omega)
  have bx1_1 := cell_off hg bx1_1 (fun g h1 => by have := (o_x.lt g h1).1; have := u_x g h1; omega)
  have bx1_2 := cell_off hg bx1_2 (fun g h1 => by have := (o_x.lt g h1).1; have := u_x g h1; omega)
  have bx1_3 := cell_off hg bx1_3 (fun g h1 => by have := (o_x.lt g h1).1; have := u_x g h1; omega)
  have bx2_0 := cell_off hg bx2_0 (fun g h1 => by have := (o_x.lt g h1).1; have := u_x g h1; omega)
  have bx2_1 := cell_off hg bx2_1 (fun g h1 => by have := (o_x.lt g h1).1; have := u_x g h1; omega)
  have bx2_2 := cell_off hg bx2_2 (fun g h1 => by have := (o_x.lt g h1).1; have := u_x g h1; omega)
  have bx2_3 := cell_off hg bx2_3 (fun g h1 => by have := (o_x.lt g h1).1; have := u_x g h1; omega)
  have bx3_0 := cell_off hg bx3_0 (fun g h1 => by have := (o_x.lt g h1).1; have := u_x g h1; omega)
  have bx3_1 := cell_off hg bx3_1 (fun g h1 => by have := (o_x.lt g h1).1; have := u_x g h1; omega)
  have bx3_2 := cell_off hg bx3_2 (fun g h1 => by have := (o_x.lt g h1).1; have := u_x g h1; omega)
  have bx3_3 := cell_off hg bx3_3 (fun g h1 => by have := (o_x.lt g h1).1; have := u_x g h1; omega)
  have bl0 := Nat.lt_of_lt_of_le bl0 hg.size
  have bl1 := Nat.lt_of_lt_of_le bl1 hg.size
  have bl2 := Nat.lt_of_lt_of_le bl2 hg.size
  have bl3 := Nat.lt_of_lt_of_le bl3 hg.size
  have r_a := r_a.grown hg (by omega) (fun g hg => Nat.le_trans (by omega) (o_x.lt g hg).1)
  have o_v := own_far o_v hg (fun g h1 h2 => by have := u_v g h1; have := (o_x.lt g h2).1; omega)
  have r_v := (Reads.of_own o_v)
  have o_u := own_far o_u hg (fun g h1 h2 => by have := u_u g h1; have := (o_x.lt g h2).1; omega)
  have r_u := (Reads.of_own o_u)
  have o_g := own_far o_g hg (fun g h1 h2 => by have := (o_g.lt g h1).1; have := u_x g h2; omega)
  have r_g := (Reads.of_own o_g)
  have o_k := own_far o_k hg (fun g h1 h2 => by have := (o_k.lt g h1).1; have := u_x g h2; omega)
  have r_k := (Reads.of_own o_k)
  have o_x := om
  have r_x := Reads.of_own o_x
  clear hg om
  go_wp2_with fail
  refine (eqPool_c _ _ _ _ _ _ _ _ lf _ hn_v (by omega) (r_g.more (by omega)) (r_v.more (by omega))).mono ?_
  rintro e w15 ⟨rfl, hb⟩
  have k15 : Below w.heap.size w w15 := ext_step k14 (by omega) hb
  have p15 := hb.size
  have bx0_0 := ccell hb _ _ _ bx0_0
  have bx0_1 := ccell hb _ _ _ bx0_1
  have bx0_2 := ccell hb _ _ _ bx0_2
  have bx0_3 := ccell hb _ _ _ bx0_3
  have bx1_0 := ccell hb _ _ _ bx1_0
  have bx1_1 := ccell hb _ _ _ bx1_1
  have bx1_2 := ccell hb _ _ _ bx1_2
  have bx1_3 := ccell hb _ _ _ bx1_3
  have bx2_0 := ccell hb _ _ _ bx2_0
  have bx2_1 := ccell hb _ _ _ bx2_1
  have bx2_2 := ccell hb _ _ _ bx2_2
  have bx2_3 := ccell hb _ _ _ bx2_3
  have bx3_0 := ccell hb _ _ _ bx3_0
  have bx3_1 := ccell hb _ _ _ bx3_1
  have bx3_2 := ccell hb _ _ _ bx3_2
  have bx3_3 := ccell hb _ _ _ bx3_3
  have bl0 := Nat.lt_of_lt_of_le bl0 hb.size
  have bl1 := Nat.lt_of_lt_of_le bl1 hb.size
  have bl2 := Nat.lt_of_lt_of_le bl2 hb.size
  have bl3 := Nat.lt_of_lt_of_le bl3 hb.size
  have r_a := r_a.below (hb.mono (by omega))
  have r_v := r_v.below (hb.mono (by omega))
  have o_v := own_ext o_v hb
  have r_u := r_u.below (hb.mono (by omega))
  have o_u := own_ext o_u hb
  have r_g := r_g.below (hb.mono (by omega))
  have o_g := own_ext o_g hb
  have r_k := r_k.below (hb.mono (by omega))
  have o_k := own_ext o_k hb
  clear hb
  go_wp2_with fail
  refine (eqIntS_c _ _ _ _ _ ll _ hn_u (by omega) (r_k.more (by omega)) (r_u.more (by omega))).mono ?_
  rintro e w16 ⟨rfl, hb⟩
  have k16 : Below w.heap.size w w16 := ext_step k15 (by omega) hb
  have p16 := hb.size
  have bx0_0 := ccell hb _ _ _ bx0_0
  have bx0_1 := ccell hb _ _ _ bx0_1
  have bx0_2 := ccell hb _ _ _ bx0_2
  have bx0_3 := ccell hb _ _ _ bx0_3
  have bx1_0 := ccell hb _ _ _ bx1_0
  have bx1_1 := ccell hb _ _ _ bx1_1
  have bx1_2 := ccell hb _ _ _ bx1_2
  have bx1_3 := ccell hb _ _ _ bx1_3
  have bx2_0 := ccell hb _ _ _ bx2_0
  have bx2_1 := ccell hb _ _ _ bx2_1
  have bx2_2 := ccell hb _ _ _ bx2_2
  have bx2_3 := ccell hb _ _ _ bx2_3
  have bx3_0 := ccell hb _ _ _ bx3_0
  have bx3_1 := ccell hb _ _ _ bx3_1
  have bx3_2 := ccell hb _ _ _ bx3_2
  have bx3_3 := ccell hb _ _ _ bx3_3
  have bl0 := Nat.lt_of_lt_of_le bl0 hb.size
  have bl1 := Nat.lt_of_lt_of_le bl1 hb.size
  have bl2 := Nat.lt_of_lt_of_le bl2 hb.size
  have bl3 := Nat.lt_of_lt_of_le bl3 hb.size
  have r_a := r_a.below (hb.mono (by omega))
  have r_v := r_v.below (hb.mono (by omega))
  have o_v := own_ext o_v hb
  have r_u := r_u.below (hb.mono (by omega))
  have o_u := own_ext o_u hb
  have r_g := r_g.below (hb.mono (by omega))
  have o_g := own_ext o_g hb
  have r_k := r_k.below (hb.mono (by omega))
  have o_k := own_ext o_k hb
  clear hb
  go_wp2_with fail
  refine (markPool_c _ _ _ _ _ _ _ _ _ _ o_g (by omega) (by omega) (by omega)).mono ?_
  rintro e w17 ⟨rfl, om, hg⟩
  have k17 : Below w.heap.size w w17 := below_app k16 (own_base o_g (by omega)) hg (by omega)
  have p17 := hg.size
  have bx0_0 := cell_off hg bx0_0 (fun g h1 => by have := (o_g.lt g h1).1; have := u_g g h1; have := v_g g h1; omega)
  have bx0_1 := cell_off hg bx0_1 (fun g h1 => by have := (o_g.lt g h1).1; have := u_g g h1; have := v_g g h1; omega)
  have bx0_2 := cell_off hg bx0_2 (fun g h1 => by have := (o_g.lt g h1).1; have := u_g g h1; have := v_g g h1; omega)
  have bx0_3 := cell_off hg bx0_3 (fun g h1 => by have := (o_g.lt g h1).1; have := u_g g h1; have := v_g g h1; omega)
  have bx1_0 := cell_off hg bx1_0 (fun g h1 => by have := (o_g.lt g h1).1; have := u_g g h1; have := v_g g h1; omega)
  have bx1_1 := cell_off hg bx1_1 (fun g h1 => by have := (o_g.lt g h1).1; have := u_g g h1; have := v_g g h1; omega)
  have bx1_2 := cell_off hg bx1_2 (fun g h1 => by have := (o_g.lt g h1).1; have := u_g g h1; have := v_g g h1; omega)
  have bx1_3 := cell_off hg bx1_3 (fun g h1 => by have := (o_g.lt g h1).1; have := u_g g h1; have := v_g g h1; omega)
  have bx2_0 := cell_off hg bx2_0 (fun g h1 => by have := (o_g.lt g h1).1; have := u_g g h1; have := v_g g h1; omega)
  have bx2_1 := cell_off hg bx2_1 (fun g h1 => by have := (o_g.lt g h1).1; have := u_g g h1; have := v_g g h1; omega)
  have bx2_2 := cell_off hg bx2_2 (fun g h1 => by have := (o_g.lt g h1).1; have := u_g g h1; have := v_g g h1; omega)
  have bx2_3 := cell_off hg bx2_3 (fun g h1 => by have := (o_g.lt g h1).1; have := u_g g h1; have := v_g g h1; omega)
  have bx3_0 := cell_off hg bx3_0 (fun g h1 => by have := (o_g.lt g h1).1; have := u_g g h1; have := v_g g h1; omega)
  have bx3_1 := cell_off hg bx3_1 (fun g h1 => by have := (o_g.lt g h1).1; have := u_g g h1; have := v_g g h1; omega)
  have bx3_2 := cell_off hg bx3_2 (fun g h1 => by have := (o_g.lt g h1).1; have := u_g g h1; have := v_g g h1; omega)
  have bx3_3 := cell_off hg bx3_3 (fun g h1 => by have := (o_g.lt g h1).1; have := u_g g h1; have := v_g g h1; omega)
  have bl0 := Nat.lt_of_lt_of_le bl0 hg.size
  have bl1 := Nat.lt_of_lt_of_le bl1 hg.size
  have bl2 := Nat.lt_of_lt_of_le bl2 hg.size
  have bl3 := Nat.lt_of_lt_of_le bl3 hg.size
  have r_a := r_a.grown hg (by omega) (fun g hg => Nat.le_trans (by omega) (o_g.lt g hg).1)
  have o_v := own_far o_v hg (fun g h1 h2 => by have := u_v g h1; have := (o_g.lt g h2).1; omega)
  have r_v := (Reads.of_own o_v)
  have o_u := own_far o_u hg (fun g h1 h2 => by have := u_u g h1; have := (o_g.lt g h2).1; omega)
  have r_u := (Reads.of_own o_u)
  have o_k := own_far o_k hg (fun g h1 h2 => by have := (o_k.lt g h1).1; have := u_g g h2; omega)
  have r_k := (Reads.of_own o_k)
  have o_g := om
  have r_g := Reads.of_own o_g
  clear hg om
  go_wp2_with fail
  refine (markIntS_c _ _ _ _ _ _ _ o_k (by omega) (by omega) (by omega)).mono ?_
  rintro e w18 ⟨rfl, om, hg⟩
  have k18 : Below w.heap.size w w18 := below_app k17 (own_base o_k (by omega)) hg (by omega)
  have p18 := hg.size
  have bx0_0 := cell_off hg bx0_0 (fun g h1 => by have := (o_k.lt g h1).1; have := u_k g h1; omega)
  have bx0_1 := cell_off hg bx0_1 (fun g h1 => by have := (o_k.lt g h1).1; have := u_k g h1; omega)
  have bx0_2 := cell_off hg bx0_2 (fun g h1 => by have := (o_k.lt g h1).1; have := u_k g h1; omega)
  have bx0_3 := cell_off hg bx0_3 (fun g h1 => by have := (o_k.lt g h1).1; have := u_k g h1; omega)
  have bx1_0 := cell_off hg bx1_0 (fun g h1 => by have := (o_k.lt g h1).1; have := u_k g h1; omega)
  have bx1_1 := cell_off hg bx1_1 (fun g h1 => by have := (o_k.lt g h1).1; have := u_k g h1; omega)
  have bx1_2 := cell_off hg bx1_2 (fun g h1 => by have := (o_k.lt g h1).1; have := u_k g h1; omega)
  have bx1_3 := cell_off hg bx1_3 (fun g h1 => by have := (o_k.lt g h1).1; have := u_k g h1; omega)
  have bx2_0 := cell_off hg bx2_0 (fun g h1 => by have := (o_k.lt g h1).1; have := u_k g h1; omega)
  have bx2_1 := cell_off hg bx2_1 (fun g h1 => by have := (o_k.lt g h1).1; have := u_k g h1; omega)
  have bx2_2 := cell_off hg bx2_2 (fun g h1 => by have := (o_k.lt g h1).1; have := u_k g h1; omega)
  have bx2_3 := cell_off hg bx2_3 (fun g h1 => by have := (o_k.lt g h1).1; have := u_k g h1; omega)
  have bx3_0 := cell_off hg bx3_0 (fun g h1 => by have := (o_k.lt g h1).1; have := u_k g h1; omega)
  have bx3_1 := cell_off hg bx3_1 (fun g h1 => by have := (o_k.lt g h1).1; have := u_k g h1; omega)
  have bx3_2 := cell_off hg bx3_2 (fun g h1 => by have := (o_k.lt g h1).1; have := u_k g h1; omega)
  have bx3_3 := cell_off hg bx3_3 (fun g h1 => by have := (o_k.lt g h1).1; have := u_k g h1; omega)
  have bl0 := Nat.lt_of_lt_of_le bl0 hg.size
  have bl1 := Nat.lt_of_lt_of_le bl1 hg.size
  have bl2 := Nat.lt_of_lt_of_le bl2 hg.size
  have bl3 := Nat.lt_of_lt_of_le bl3 hg.size
  have r_a := r_a.grown hg (by omega) (fun g hg => Nat.le_trans (by omega) (o_k.lt g hg).1)
  have o_v := own_far o_v hg (fun g h1 h2 => by have := u_v g h1; have := (o_k.lt g h2).1; omega)
  have r_v := (Reads.of_own o_v)
  have o_u := own_far o_u hg (fun g h1 h2 => by have := u_u g h1; have := (o_k.lt g h2).1; omega)
  have r_u := (Reads.of_own o_u)
  have o_g := own_far o_g hg (fun g h1 h2 => by have := u_g g h1; have := (o_k.lt g h2).1; omega)
  have r_g := (Reads.of_own o_g)
  have o_k := om
  have r_k := Reads.of_own o_k
  clear hg om
  go_wp2_with fail
  refine (heldPool_c _ _ _ _ _ _ _ _ (r_g.more (by omega)) (by omega) (by omega) (by omega)).mono ?_
  rintro e w19 ⟨rfl, hb⟩
  have k19 : Below w.heap.size w w19 := ext_step k18 (by omega) hb
  have p19 := hb.size
  have bx0_0 := ccell hb _ _ _ bx0_0
  have bx0_1 := ccell hb _ _ _ bx0_1
  have bx0_2 := ccell hb _ _ _ bx0_2
  have bx0_3 := ccell hb _ _ _ bx0_3
  have bx1_0 := ccell hb _ _ _ bx1_0
  have bx1_1 := ccell hb _ _ _ bx1_1
  have bx1_2 := ccell hb _ _ _ bx1_2
  have bx1_3 := ccell hb _ _ _ bx1_3
  have bx2_0 := ccell hb _ _ _ bx2_0
  have bx2_1 := ccell hb _ _ _ bx2_1
  have bx2_2 := ccell hb _ _ _ bx2_2
  have bx2_3 := ccell hb _ _ _ bx2_3
  have bx3_0 := ccell hb _ _ _ bx3_0
  have bx3_1 := ccell hb _ _ _ bx3_1
  have bx3_2 := ccell hb _ _ _ bx3_2
  have bx3_3 := ccell hb _ _ _ bx3_3
  have bl0 := Nat.lt_of_lt_of_le bl0 hb.size
  have bl1 := Nat.lt_of_lt_of_le bl1 hb.size
  have bl2 := Nat.lt_of_lt_of_le bl2 hb.size
  have bl3 := Nat.lt_of_lt_of_le bl3 hb.size
  have r_a := r_a.below (hb.mono (by omega))
  have r_v := r_v.below (hb.mono (by omega))
  have o_v := own_ext o_v hb
  have r_u := r_u.below (hb.mono (by omega))
  have o_u := own_ext o_u hb
  have r_g := r_g.below (hb.mono (by omega))
  have o_g := own_ext o_g hb
  have r_k := r_k.below (hb.mono (by omega))
  have o_k := own_ext o_k hb
  clear hb
  go_wp2_with fail
  refine (heldIntS_c _ _ _ _ _ (r_k.more (by omega)) (by omega) (by omega) (by omega)).mono ?_
  rintro e w20 ⟨rfl, hb⟩
  have k20 : Below w.heap.size w w20 := ext_step k19 (by omega) hb
  have p20 := hb.size
  have bx0_0 := ccell hb _ _ _ bx0_0
  have bx0_1 := ccell hb _ _ _ bx0_1
  have bx0_2 := ccell hb _ _ _ bx0_2
  have bx0_3 := ccell hb _ _ _ bx0_3
  have bx1_0 := ccell hb _ _ _ bx1_0
  have bx1_1 := ccell hb _ _ _ bx1_1
  have bx1_2 := ccell hb _ _ _ bx1_2
  have bx1_3 := ccell hb _ _ _ bx1_3
  have bx2_0 := ccell hb _ _ _ bx2_0
  have bx2_1 := ccell hb _ _ _ bx2_1
  have bx2_2 := ccell hb _ _ _ bx2_2
  have bx2_3 := ccell hb _ _ _ bx2_3
  have bx3_0 := ccell hb _ _ _ bx3_0
  have bx3_1 := ccell hb _ _ _ bx3_1
  have bx3_2 := ccell hb _ _ _ bx3_2
  have bx3_3 := ccell hb _ _ _ bx3_3
  have bl0 := Nat.lt_of_lt_of_le bl0 hb.size
  have bl1 := Nat.lt_of_lt_of_le bl1 hb.size
  have bl2 := Nat.lt_of_lt_of_le bl2 hb.size
  have bl3 := Nat.lt_of_lt_of_le bl3 hb.size
  have r_a := r_a.below (hb.mono (by omega))
  have r_v := r_v.below (hb.mono (by omega))
  have o_v := own_ext o_v hb
  have r_u := r_u.below (hb.mono (by omega))
  have o_u := own_ext o_u hb
  have r_g := r_g.below (hb.mono (by omega))
  have o_g := own_ext o_g hb
  have r_k := r_k.below (hb.mono (by omega))
  have o_k := own_ext o_k hb
  clear hb
  go_wp2_with fail
  refine (toPool_c _ _ _ _ _ _ l _ hn_a hs_a (r_a.more (by omega))).mono ?_
  rintro e w21 ⟨g_t, rfl, hg_t, b_t, hb⟩
  have k21 : Below w.heap.size w w21 := ext_step k20 (by omega) hb
  have p21 := hb.size
  have bx0_0 := ccell hb _ _ _ bx0_0
  have bx0_1 := ccell hb _ _ _ bx0_1
  have bx0_2 := ccell hb _ _ _ bx0_2
  have bx0_3 := ccell hb _ _ _ bx0_3
  have bx1_0 := ccell hb _ _ _ bx1_0
  have bx1_1 := ccell hb _ _ _ bx1_1
  have bx1_2 := ccell hb _ _ _ bx1_2
  have bx1_3 := ccell hb _ _ _ bx1_3
  have bx2_0 := ccell hb _ _ _ bx2_0
  have bx2_1 := ccell hb _ _ _ bx2_1
  have bx2_2 := ccell hb _ _ _ bx2_2
  have bx2_3 := ccell hb _ _ _ bx2_3
  have bx3_0 := ccell hb _ _ _ bx3_0
  have bx3_1 := ccell hb _ _ _ bx3_1
  have bx3_2 := ccell hb _ _ _ bx3_2
  have bx3_3 := ccell hb _ _ _ bx3_3
  have bl0 := Nat.lt_of_lt_of_le bl0 hb.size
  have bl1 := Nat.lt_of_lt_of_le bl1 hb.size
  have bl2 := Nat.lt_of_lt_of_le bl2 hb.size
  have bl3 := Nat.lt_of_lt_of_le bl3 hb.size
  have r_a := r_a.below (hb.mono (by omega))
  have r_v := r_v.below (hb.mono (by omega))
  have o_v := own_ext o_v hb
  have r_u := r_u.below (hb.mono (by omega))
  have o_u := own_ext o_u hb
  have r_g := r_g.below (hb.mono (by omega))
  have o_g := own_ext o_g hb
  have r_k := r_k.below (hb.mono (by omega))
  have o_k := own_ext o_k hb
  have r_t := b_t.reads (size := 1) (n := n) (by rw [flatMap_len _ 1 (fun _ => rfl), hn_a])
  have o_t := b_t.own (base := w20.heap.size) (size := 1) (n := n) hg_t (by rw [flatMap_len _ 1 (fun _ => rfl), hn_a]) (by unfold maxLen; omega) rfl
  have u_t := fun k hk => (o_t.lt k hk).2
  clear hb
  go_wp2_with fail
  refine (himpl _ _ _ hs_a (Nat.le_refl _) (r_t.more (by omega))).mono ?_
  rintro e w22 ⟨A_h, c_h, A_y, c_y, m_h, rfl, o_h, u_h, hm_h, o_y, hb⟩
  have k22 : Below w.heap.size w w22 := ext_step k21 (by omega) hb
  have p22 := hb.size
  have bx0_0 := ccell hb _ _ _ bx0_0
  have bx0_1 := ccell hb _ _ _ bx0_1
  have bx0_2 := ccell hb _ _ _ bx0_2
  have bx0_3 := ccell hb _ _ _ bx0_3
  have bx1_0 := ccell hb _ _ _ bx1_0
  have bx1_1 := ccell hb _ _ _ bx1_1
  have bx1_2 := ccell hb _ _ _ bx1_2
  have bx1_3 := ccell hb _ _ _ bx1_3
  have bx2_0 := ccell hb _ _ _ bx2_0
  have bx2_1 := ccell hb _ _ _ bx2_1
  have bx2_2 := ccell hb _ _ _ bx2_2
  have bx2_3 := ccell hb _ _ _ bx2_3
  have bx3_0 := ccell hb _ _ _ bx3_0
  have bx3_1 := ccell hb _ _ _ bx3_1
  have bx3_2 := ccell hb _ _ _ bx3_2
  have bx3_3 := ccell hb _ _ _ bx3_3
  have bl0 := Nat.lt_of_lt_of_le bl0 hb.size
  have bl1 := Nat.lt_of_lt_of_le bl1 hb.size
  have bl2 := Nat.lt_of_lt_of_le bl2 hb.size
  have bl3 := Nat.lt_of_lt_of_le bl3 hb.size
  have r_a := r_a.below (hb.mono (by omega))
  have r_v := r_v.below (hb.mono (by omega))
  have o_v := own_ext o_v hb
  have r_u := r_u.below (hb.mono (by omega))
  have o_u := own_ext o_u hb
  have r_g := r_g.below (hb.mono (by omega))
  have o_g := own_ext o_g hb
  have r_k := r_k.below (hb.mono (by omega))
  have o_k := own_ext o_k hb
  have r_t := r_t.below (hb.mono (by omega))
  have o_t := own_ext o_t hb
  have r_h := Reads.of_own o_h
  have v_h := fun k hk => (o_h.lt k hk).2
  have r_y := Reads.of_own o_y
  have u_y := fun k hk => (o_y.lt k hk).2
  clear hb
  go_wp2_with fail
  have hb : Below w22.heap.size w22 (w22.alloc (.cells #[.int .i64 base, .int .i64 size, .int .i64 count, .slice A_h j c_h] 27)) := by go_grown
  have bx4_0 : (w22.alloc (.cells #[.int .i64 base, .int .i64 size, .int .i64 count, .slice A_h j c_h] 27)).cell? ⟨w22.heap.size, 0, none⟩ = some (.int .i64 base) := by simp [go_sem]
  have bx4_1 : (w22.alloc (.cells #[.int .i64 base, .int .i64 size, .int .i64 count, .slice A_h j c_h] 27)).cell? ⟨w22.heap.size, 1, none⟩ = some (.int .i64 size) := by simp [go_sem]
  have bx4_2 : (w22.alloc (.cells #[.int .i64 base, .int .i64 size, .int .i64 count, .slice A_h j c_h] 27)).cell? ⟨w22.heap.size, 2, none⟩ = some (.int .i64 count) := by simp [go_sem]
  have bx4_3 : (w22.alloc (.cells #[.int .i64 base, .int .i64 size, .int .i64 count, .slice A_h j c_h] 27)).cell? ⟨w22.heap.size, 3, none⟩ = some (.slice A_h j c_h) := by simp [go_sem]
  have bl4 : w22.heap.size < (w22.alloc (.cells #[.int .i64 base, .int .i64 size, .int .i64 count, .slice A_h j c_h] 27)).heap.size := by go_size
  generalize hW0 : (w22.alloc (.cells #[.int .i64 base, .int .i64 size, .int .i64 count, .slice A_h j c_h] 27)) = w23 at *
  clear hW0
  have k23 : Below w.heap.size w w23 := ext_step k22 (by omega) hb
  have p23 := hb.size
  have bx0_0 := ccell hb _ _ _ bx0_0
  have bx0_1 := ccell hb _ _ _ bx0_1
  have bx0_2 := ccell hb _ _ _ bx0_2
  have bx0_3 := ccell hb _ _ _ bx0_3
  have bx1_0 := ccell hb _ _ _ bx1_0
  have bx1_1 := ccell hb _ _ _ bx1_1
  have bx1_2 := ccell hb _ _ _ bx1_2
  have bx1_3 := ccell hb _ _ _ bx1_3
  have bx2_0 := ccell hb _ _ _ bx2_0
  have bx2_1 := ccell hb _ _ _ bx2_1
  have bx2_2 := ccell hb _ _ _ bx2_2
  have bx2_3 := ccell hb _ _ _ bx2_3
  have bx3_0 := ccell hb _ _ _ bx3_0
  have bx3_1 := ccell hb _ _ _ bx3_1
  have bx3_2 := ccell hb _ _ _ bx3_2
  have bx3_3 := ccell hb _ _ _ bx3_3
  have bl0 := Nat.lt_of_lt_of_le bl0 hb.size
  have bl1 := Nat.lt_of_lt_of_le bl1 hb.size
  have bl2 := Nat.lt_of_lt_of_le bl2 hb.size
  have bl3 := Nat.lt_of_lt_of_le bl3 hb.size
  have r_a := r_a.below (hb.mono (by omega))
  have r_v := r_v.below (hb.mono (by omega))
  have o_v := own_ext o_v hb
  have r_u := r_u.below (hb.mono (by omega))
  have o_u := own_ext o_u hb
  have r_g := r_g.below (hb.mono (by omega))
  have o_g := own_ext o_g hb
  have r_k := r_k.below (hb.mono (by omega))
  have o_k := own_ext o_k hb
  have r_h := r_h.below (hb.mono (by omega))
  have o_h := own_ext o_h hb
  have r_y := r_y.below (hb.mono (by omega))
  have o_y := own_ext o_y hb
  clear hb
  refine (eqPool_c _ _ _ _ _ _ _ _ lf _ hn_v (by omega) (r_h.more (by omega)) (r_v.more (by omega))).mono ?_
  rintro e w24 ⟨rfl, hb⟩
  have k24 : Below w.heap.size w w24 := ext_step k23 (by omega) hb
  have p24 := hb.size
  have bx0_0 := ccell hb _ _ _ bx0_0
  have bx0_1 := ccell hb _ _ _ bx0_1
  have bx0_2 := ccell hb _ _ _ bx0_2
  have bx0_3 := ccell hb _ _ _ bx0_3
  have bx1_0 := ccell hb _ _ _ bx1_0
  have bx1_1 := ccell hb _ _ _ bx1_1
  have bx1_2 := ccell hb _ _ _ bx1_2
  have bx1_3 := ccell hb _ _ _ bx1_3
  have bx2_0 := ccell hb _ _ _ bx2_0
  have bx2_1 := ccell hb _ _ _ bx2_1
  have bx2_2 := ccell hb _ _ _ bx2_2
  have bx2_3 := ccell hb _ _ _ bx2_3
  have bx3_0 := ccell hb _ _ _ bx3_0
  have bx3_1 := ccell hb _ _ _ bx3_1
  have bx3_2 := ccell hb _ _ _ bx3_2
  have bx3_3 := ccell hb _ _ _ bx3_3
  have bx4_0 := ccell hb _ _ _ bx4_0
  have bx4_1 := ccell hb _ _ _ bx4_1
  have bx4_2 := ccell hb _ _ _ bx4_2
  have bx4_3 := ccell hb _ _ _ bx4_3
  have bl0 := Nat.lt_of_lt_of_le bl0 hb.size
  have bl1 := Nat.lt_of_lt_of_le bl1 hb.size
  have bl2 := Nat.lt_of_lt_of_le bl2 hb.size
  have bl3 := Nat.lt_of_lt_of_le bl3 hb.size
  have bl4 := Nat.lt_of_lt_of_le bl4 hb.size
  have r_a := r_a.below (hb.mono (by omega))
  have r_v := r_v.below (hb.mono (by omega))
  have o_v := own_ext o_v hb
  have r_u := r_u.below (hb.mono (by omega))
  have o_u := own_ext o_u hb
  have r_g := r_g.below (hb.mono (by omega))
  have o_g := own_ext o_g hb
  have r_k := r_k.below (hb.mono (by omega))
  have o_k := own_ext o_k hb
  have r_h := r_h.below (hb.mono (by omega))
  have o_h := own_ext o_h hb
  have r_y := r_y.below (hb.mono (by omega))
  have o_y := own_ext o_y hb
  clear hb
  go_wp2_with fail
  refine (eqIntS_c _ _ _ _ _ ll _ hn_u (by omega) (r_y.more (by omega)) (r_u.more (by omega))).mono ?_
  rintro e w25 ⟨rfl, hb⟩
  have k25 : Below w.heap.size w w25 := ext_step k24 (by omega) hb
  have p25 := hb.size
  have bx0_0 := ccell hb _ _ _ bx0_0
  have bx0_1 := ccell hb _ _ _ bx0_1
  have bx0_2 := ccell hb _ _ _ bx0_2
  have bx0_3 := ccell hb _ _ _ bx0_3
  have bx1_0 := ccell hb _ _ _ bx1_0
  have bx1_1 := ccell hb _ _ _ bx1_1
  have bx1_2 := ccell hb _ _ _ bx1_2
  have bx1_3 := ccell hb _ _ _ bx1_3
  have bx2_0 := ccell hb _ _ _ bx2_0
  have bx2_1 := ccell hb _ _ _ bx2_1
  have bx2_2 := ccell hb _ _ _ bx2_2
  have bx2_3 := ccell hb _ _ _ bx2_3
  have bx3_0 := ccell hb _ _ _ bx3_0
  have bx3_1 := ccell hb _ _ _ bx3_1
  have bx3_2 := ccell hb _ _ _ bx3_2
  have bx3_3 := ccell hb _ _ _ bx3_3
  have bx4_0 := ccell hb _ _ _ bx4_0
  have bx4_1 := ccell hb _ _ _ bx4_1
  have bx4_2 := ccell hb _ _ _ bx4_2
  have bx4_3 := ccell hb _ _ _ bx4_3
  have bl0 := Nat.lt_of_lt_of_le bl0 hb.size
  have bl1 := Nat.lt_of_lt_of_le bl1 hb.size
  have bl2 := Nat.lt_of_lt_of_le bl2 hb.size
  have bl3 := Nat.lt_of_lt_of_le bl3 hb.size
  have bl4 := Nat.lt_of_lt_of_le bl4 hb.size
  have r_a := r_a.below (hb.mono (by omega))
  have r_v := r_v.below (hb.mono (by omega))
  have o_v := own_ext o_v hb
  have r_u := r_u.below (hb.mono (by omega))
  have o_u := own_ext o_u hb
  have r_g := r_g.below (hb.mono (by omega))
  have o_g := own_ext o_g hb
  have r_k := r_k.below (hb.mono (by omega))
  have o_k := own_ext o_k hb
  have r_h := r_h.below (hb.mono (by omega))
  have o_h := own_ext o_h hb
  have r_y := r_y.below (hb.mono (by omega))
  have o_y := own_ext o_y hb
  clear hb
  go_wp2_with fail
  refine (heldPool_c _ _ _ _ _ _ _ _ (r_g.more (by omega)) (by omega) (by omega) (by omega)).mono ?_
  rintro e w26 ⟨rfl, hb⟩
  have k26 : Below w.heap.size w w26 := ext_step k25 (by omega) hb
  have p26 := hb.size
  have bx0_0 := ccell hb _ _ _ bx0_0
  have bx0_1 := ccell hb _ _ _ bx0_1
  have bx0_2 := ccell hb _ _ _ bx0_2
  have bx0_3 := ccell hb _ _ _ bx0_3
  have bx1_0 := ccell hb _ _ _ bx1_0
  have bx1_1 := ccell hb _ _ _ bx1_1
  have bx1_2 := ccell hb _ _ _ bx1_2
  have bx1_3 := ccell hb _ _ _ bx1_3
  have bx2_0 := ccell hb _ _ _ bx2_0
  have bx2_1 := ccell hb _ _ _ bx2_1
  have bx2_2 := ccell hb _ _ _ bx2_2
  have bx2_3 := ccell hb _ _ _ bx2_3
  have bx3_0 := ccell hb _ _ _ bx3_0
  have bx3_1 := ccell hb _ _ _ bx3_1
  have bx3_2 := ccell hb _ _ _ bx3_2
  have bx3_3 := ccell hb _ _ _ bx3_3
  have bx4_0 := ccell hb _ _ _ bx4_0
  have bx4_1 := ccell hb _ _ _ bx4_1
  have bx4_2 := ccell hb _ _ _ bx4_2
  have bx4_3 := ccell hb _ _ _ bx4_3
  have bl0 := Nat.lt_of_lt_of_le bl0 hb.size
  have bl1 := Nat.lt_of_lt_of_le bl1 hb.size
  have bl2 := Nat.lt_of_lt_of_le bl2 hb.size
  have bl3 := Nat.lt_of_lt_of_le bl3 hb.size
  have bl4 := Nat.lt_of_lt_of_le bl4 hb.size
  have r_a := r_a.below (hb.mono (by omega))
  have r_g := r_g.below (hb.mono (by omega))
  have o_g := own_ext o_g hb
  have r_k := r_k.below (hb.mono (by omega))
  have o_k := own_ext o_k hb
  clear hb
  go_wp2_with fail
  refine (heldIntS_c _ _ _ _ _ (r_k.more (by omega)) (by omega) (by omega) (by omega)).mono ?_
  rintro e w27 ⟨rfl, hb⟩
  have k27 : Below w.heap.size w w27 := ext_step k26 (by omega) hb
  have p27 := hb.size
  have bx0_0 := ccell hb _ _ _ bx0_0
  have bx0_1 := ccell hb _ _ _ bx0_1
  have bx0_2 := ccell hb _ _ _ bx0_2
  have bx0_3 := ccell hb _ _ _ bx0_3
  have bx1_0 := ccell hb _ _ _ bx1_0
  have bx1_1 := ccell hb _ _ _ bx1_1
  have bx1_2 := ccell hb _ _ _ bx1_2
  have bx1_3 := ccell hb _ _ _ bx1_3
  have bx2_0 := ccell hb _ _ _ bx2_0
  have bx2_1 := ccell hb _ _ _ bx2_1
  have bx2_2 := ccell hb _ _ _ bx2_2
  have bx2_3 := ccell hb _ _ _ bx2_3
  have bx3_0 := ccell hb _ _ _ bx3_0
  have bx3_1 := ccell hb _ _ _ bx3_1
  have bx3_2 := ccell hb _ _ _ bx3_2
  have bx3_3 := ccell hb _ _ _ bx3_3
  have bx4_0 := ccell hb _ _ _ bx4_0
  have bx4_1 := ccell hb _ _ _ bx4_1
  have bx4_2 := ccell hb _ _ _ bx4_2
  have bx4_3 := ccell hb _ _ _ bx4_3
  have bl0 := Nat.lt_of_lt_of_le bl0 hb.size
  have bl1 := Nat.lt_of_lt_of_le bl1 hb.size
  have bl2 := Nat.lt_of_lt_of_le bl2 hb.size
  have bl3 := Nat.lt_of_lt_of_le bl3 hb.size
  have bl4 := Nat.lt_of_lt_of_le bl4 hb.size
  have r_a := r_a.below (hb.mono (by omega))
  have r_g := r_g.below (hb.mono (by omega))
  have o_g := own_ext o_g hb
  have r_k := r_k.below (hb.mono (by omega))
  have o_k := own_ext o_k hb
  clear hb
  go_wp2
  go_ret
  exact ⟨rfl, k27⟩
end Go.Proofs.Ytojkakafomieiaa
