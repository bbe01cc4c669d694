/- The walk of laws.FnExactWriteMemory. -/
import Derived.Test.YteajedcoidljhaaConvMem
import Derived.Test.YteajedcoidljhaaWriteMem
import Derived.Deep.RegionHeld3
namespace Go.Proofs.Yteajedcoidljhaa
set_option linter.unusedSimpArgs false
set_option linter.unusedVariables false
open Go.RowKit Go.ChangeShapes Go.WideShapes
theorem writeG_len : ∀ (f : Nat) (l : List ByteArray) (a : Nat) (s : ByteArray), (writeG f l a s).length = l.length
  | 0, _, _, _ => rfl
  | f + 1, l, a, s => by
    rw [writeG]
    split
    · rw [writeG_len f]; simp
    · rfl
theorem writeL_len (l : List ByteArray) (at_ : Int) (s : ByteArray) : (writeL l at_ s).length = l.length := by
  rw [writeL]
  split
  · exact writeG_len _ _ _ _
  · rfl
set_option maxHeartbeats 2000000 in
theorem fnExactWriteMemory_walk (A : Option Addr) (n c : Nat) (l : List ByteArray) (at_ : Int) (s : ByteArray) (w : World) (hs : SlStr w A n c l) (h1 : I64 at_) (h2 : s.size ≤ maxLen) :
    Calls Try.prog 6 #[.agg #[.slice A n c], .int .i64 at_, .string s] w fun e w' => e = .returned (.bool true) ∧ Below w.heap.size w w' := by
  obtain ⟨⟨hn_a, hnc_a, hc_a, r_a⟩, hb_a⟩ := hs
  unfold maxLen at h2
  by_cases hs2 : 1048576 < s.size
  · go_enter Try.func6, Try.ntmps6
    go_wp2
    go_ret
    exact ⟨rfl, by go_grown⟩
  · have hspec := fun A c w => fun (hm : n ≤ 1048576) hr => specWriteMemory_c A n c l w hn_a hm hr at_ s h1 (by omega)
    have himpl := fun A c w => fun (hm : n ≤ 1048576) hr => implWriteMemory_c A n c l w hn_a hm hr at_ s h1 (by omega)
    obtain ⟨lw, hlw⟩ : ∃ lw, writeL l at_ s = lw := ⟨_, rfl⟩
    have hn_v : lw.length = n := by rw [← hlw, writeL_len, hn_a]
    simp only [hlw] at hspec himpl
    clear hlw
    by_cases hz_a : (1048576 : Int) - n - totS l < 0
    · skip
      have hi_a := Lib.hid (szI_neg hz_a)
      go_enter Try.func6, Try.ntmps6
      go_wp2_with fail
      have k0 : Below w.heap.size w (w.alloc (.cells #[.slice A n c] 24)) := by go_grown
      have bx0_0 : (w.alloc (.cells #[.slice A n c] 24)).cell? ⟨w.heap.size, 0, none⟩ = some (.slice A n c) := by simp [go_sem]
      have bl0 : w.heap.size < (w.alloc (.cells #[.slice A n c] 24)).heap.size := by go_size
      have r_a := r_a.below k0
      have p0 := k0.size
      generalize hW0 : (w.alloc (.cells #[.slice A n c] 24)) = w0 at *
      clear hW0
      refine (szMemory_c _ _ _ l (1048576 : Int) _ (by omega) (by omega) hn_a (by omega) (r_a.more (by omega)) hb_a).mono ?_
      rintro e w1 ⟨rfl, hb⟩
      have k1 : Below w.heap.size w w1 := ext_step k0 (by omega) hb
      have p1 := hb.size
      have bx0_0 := ccell hb _ _ _ bx0_0
      have bl0 := Nat.lt_of_lt_of_le bl0 hb.size
      have r_a := r_a.below (hb.mono (by omega))
      rw [hi_a.out]
      clear hb
      go_wp2
      go_ret
      exact ⟨rfl, k1⟩
    have hi_a := Lib.hid (szI_nn hz_a)
    go_enter Try.func6, Try.ntmps6
    go_wp2_with fail
    have k0 : Below w.heap.size w (w.alloc (.cells #[.slice A n c] 24)) := by go_grown
    have bx0_0 : (w.alloc (.cells #[.slice A n c] 24)).cell? ⟨w.heap.size, 0, none⟩ = some (.slice A n c) := by simp [go_sem]
    have bl0 : w.heap.size < (w.alloc (.cells #[.slice A n c] 24)).heap.size := by go_size
    have r_a := r_a.below k0
    have p0 := k0.size
    generalize hW0 : (w.alloc (.cells #[.slice A n c] 24)) = w0 at *
    clear hW0
    refine (szMemory_c _ _ _ l (1048576 : Int) _ (by omega) (by omega) hn_a (by omega) (r_a.more (by omega)) hb_a).mono ?_
    rintro e w1 ⟨rfl, hb⟩
    have k1 : Below w.heap.size w w1 := ext_step k0 (by omega) hb
    have p1 := hb.size
    have bx0_0 := ccell hb _ _ _ bx0_0
    have bl0 := Nat.lt_of_lt_of_le bl0 hb.size
    have r_a := r_a.below (hb.mono (by omega))
    rw [hi_a.out]
    clear hb
    have ht := totS_nonneg l
    have hs_a : n ≤ 1048576 := by omega
    go_wp2_with fail
    refine (toMemory_c _ _ _ l _ hn_a hs_a (r_a.more (by omega))).mono ?_
    rintro e w2 ⟨g_t, rfl, hg_t, b_t, hb⟩
    have k2 : Below w.heap.size w w2 := ext_step k1 (by omega) hb
    have p2 := hb.size
    have bx0_0 := ccell hb _ _ _ bx0_0
    have bl0 := Nat.lt_of_lt_of_le bl0 hb.size
    have r_a := r_a.below (hb.mono (by omega))
    have r_t := b_t.reads (size := 1) (n := n) (by rw [flatMap_len _ 1 (fun _ => rfl), hn_a])
    have o_t := b_t.own (base := w1.heap.size) (size := 1) (n := n) hg_t (by rw [flatMap_len _ 1 (fun _ => rfl), hn_a]) (by unfold maxLen; omega) rfl
    have u_t := fun k hk => (o_t.lt k hk).2
    clear hb
    go_wp2_with fail
    refine (hspec _ _ _ (by omega) (r_t.more (by omega))).mono ?_
    rintro e w3 ⟨A_v, c_v, rfl, o_v, hb⟩
    have k3 : Below w.heap.size w w3 := ext_step k2 (by omega) hb
    have p3 := hb.size
    have bx0_0 := ccell hb _ _ _ bx0_0
    have bl0 := Nat.lt_of_lt_of_le bl0 hb.size
    have r_a := r_a.below (hb.mono (by omega))
    have r_t := r_t.below (hb.mono (by omega))
    have o_t := own_ext o_t hb
    have r_v := Reads.of_own o_v
    have u_v := fun k hk => (o_v.lt k hk).2
    clear hb
    go_wp2_with fail
    have hb : Below w3.heap.size w3 (w3.alloc (.cells #[.slice A_v n c_v] 27)) := by go_grown
    have bx1_0 : (w3.alloc (.cells #[.slice A_v n c_v] 27)).cell? ⟨w3.heap.size, 0, none⟩ = some (.slice A_v n c_v) := by simp [go_sem]
    have bl1 : w3.heap.size < (w3.alloc (.cells #[.slice A_v n c_v] 27)).heap.size := by go_size
    generalize hW0 : (w3.alloc (.cells #[.slice A_v n c_v] 27)) = w4 at *
    clear hW0
    have k4 : Below w.heap.size w w4 := ext_step k3 (by omega) hb
    have p4 := hb.size
    have bx0_0 := ccell hb _ _ _ bx0_0
    have bl0 := Nat.lt_of_lt_of_le bl0 hb.size
    have r_a := r_a.below (hb.mono (by omega))
    have r_v := r_v.below (hb.mono (by omega))
    have o_v := own_ext o_v hb
    clear hb
    refine (toMemory_c _ _ _ l _ hn_a hs_a (r_a.more (by omega))).mono ?_
    rintro e w5 ⟨g_x, rfl, hg_x, b_x, hb⟩
    have k5 : Below w.heap.size w w5 := ext_step k4 (by omega) hb
    have p5 := hb.size
    have bx0_0 := ccell hb _ _ _ bx0_0
    have bx1_0 := ccell hb _ _ _ bx1_0
    have bl0 := Nat.lt_of_lt_of_le bl0 hb.size
    have bl1 := Nat.lt_of_lt_of_le bl1 hb.size
    have r_a := r_a.below (hb.mono (by omega))
    have r_v := r_v.below (hb.mono (by omega))
    have o_v := own_ext o_v hb
    have r_x := b_x.reads (size := 1) (n := n) (by rw [flatMap_len _ 1 (fun _ => rfl), hn_a])
    have o_x := b_x.own (base := w4.heap.size) (size := 1) (n := n) hg_x (by rw [flatMap_len _ 1 (fun _ => rfl), hn_a]) (by unfold maxLen; omega) rfl
    have u_x := fun k hk => (o_x.lt k hk).2
    clear hb
    go_wp2_with fail
    have hb : Below w5.heap.size w5 (w5.alloc (.cells #[.slice (some ⟨g_x, 0, none⟩) n n] 27)) := by go_grown
    have bx2_0 : (w5.alloc (.cells #[.slice (some ⟨g_x, 0, none⟩) n n] 27)).cell? ⟨w5.heap.size, 0, none⟩ = some (.slice (some ⟨g_x, 0, none⟩) n n) := by simp [go_sem]
    have bl2 : w5.heap.size < (w5.alloc (.cells #[.slice (some ⟨g_x, 0, none⟩) n n] 27)).heap.size := by go_size
    generalize hW0 : (w5.alloc (.cells #[.slice (some ⟨g_x, 0, none⟩) n n] 27)) = w6 at *
    clear hW0
    have k6 : Below w.heap.size w w6 := ext_step k5 (by omega) hb
    have p6 := hb.size
    have bx0_0 := ccell hb _ _ _ bx0_0
    have bx1_0 := ccell hb _ _ _ bx1_0
    have bl0 := Nat.lt_of_lt_of_le bl0 hb.size
    have bl1 := Nat.lt_of_lt_of_le bl1 hb.size
    have r_a := r_a.below (hb.mono (by omega))
    have r_v := r_v.below (hb.mono (by omega))
    have o_v := own_ext o_v hb
    have r_x := r_x.below (hb.mono (by omega))
    have o_x := own_ext o_x hb
    clear hb
    refine (himpl _ _ _ (by omega) (r_x.more (by omega))).mono ?_
    rintro e w7 ⟨A_g, c_g, rfl, o_g, hb⟩
    have k7 : Below w.heap.size w w7 := ext_step k6 (by omega) hb
    have p7 := hb.size
    have bx0_0 := ccell hb _ _ _ bx0_0
    have bx1_0 := ccell hb _ _ _ bx1_0
    have bx2_0 := ccell hb _ _ _ bx2_0
    have bl0 := Nat.lt_of_lt_of_le bl0 hb.size
    have bl1 := Nat.lt_of_lt_of_le bl1 hb.size
    have bl2 := Nat.lt_of_lt_of_le bl2 hb.size
    have r_a := r_a.below (hb.mono (by omega))
    have r_v := r_v.below (hb.mono (by omega))
    have o_v := own_ext o_v hb
    have r_x := r_x.below (hb.mono (by omega))
    have o_x := own_ext o_x hb
    have r_g := Reads.of_own o_g
    have u_g := fun k hk => (o_g.lt k hk).2
    clear hb
    go_wp2_with fail
    have hb : Below w7.heap.size w7 (w7.alloc (.cells #[.slice A_g n c_g] 27)) := by go_grown
    have bx3_0 : (w7.alloc (.cells #[.slice A_g n c_g] 27)).cell? ⟨w7.heap.size, 0, none⟩ = some (.slice A_g n c_g) := by simp [go_sem]
    have bl3 : w7.heap.size < (w7.alloc (.cells #[.slice A_g n c_g] 27)).heap.size := by go_size
    generalize hW0 : (w7.alloc (.cells #[.slice A_g n c_g] 27)) = w8 at *
    clear hW0
    have k8 : Below w.heap.size w w8 := ext_step k7 (by omega) hb
    have p8 := hb.size
    have bx0_0 := ccell hb _ _ _ bx0_0
    have bx1_0 := ccell hb _ _ _ bx1_0
    have bx2_0 := ccell hb _ _ _ bx2_0
    have bl0 := Nat.lt_of_lt_of_le bl0 hb.size
    have bl1 := Nat.lt_of_lt_of_le bl1 hb.size
    have bl2 := Nat.lt_of_lt_of_le bl2 hb.size
    have r_a := r_a.below (hb.mono (by omega))
    have r_v := r_v.below (hb.mono (by omega))
    have o_v := own_ext o_v hb
    have r_x := r_x.below (hb.mono (by omega))
    have o_x := own_ext o_x hb
    have r_g := r_g.below (hb.mono (by omega))
    have o_g := own_ext o_g hb
    clear hb
    refine (eqMemory_c _ _ _ _ _ lw _ hn_v (by omega) (r_g.more (by omega)) (r_v.more (by omega))).mono ?_
    rintro e w9 ⟨rfl, hb⟩
    have k9 : Below w.heap.size w w9 := ext_step k8 (by omega) hb
    have p9 := hb.size
    have bx0_0 := ccell hb _ _ _ bx0_0
    have bx1_0 := ccell hb _ _ _ bx1_0
    have bx2_0 := ccell hb _ _ _ bx2_0
    have bx3_0 := ccell hb _ _ _ bx3_0
    have bl0 := Nat.lt_of_lt_of_le bl0 hb.size
    have bl1 := Nat.lt_of_lt_of_le bl1 hb.size
    have bl2 := Nat.lt_of_lt_of_le bl2 hb.size
    have bl3 := Nat.lt_of_lt_of_le bl3 hb.size
    have r_a := r_a.below (hb.mono (by omega))
    have r_v := r_v.below (hb.mono (by omega))
    have o_v := own_ext o_v hb
    have r_x := r_x.below (hb.mono (by omega))
    have o_x := own_ext o_x hb
    have r_g := r_g.below (hb.mono (by omega))
    have o_g := own_ext o_g hb
    clear hb
    go_wp2_with fail
    go_region_held3 (fun w' => w'.cell? ⟨w5.heap.size, 0, none⟩ = some (.slice (some ⟨g_x, 0, none⟩) n n) ∧ w'.cell? ⟨w.heap.size, 0, none⟩ = some (.slice A n c)) (exact ⟨bx2_0, bx0_0⟩)
      (first
        | (go_at_call 17; have hb : Below w9.heap.size w9 w9.drew := (Below.refl _ _).drew; generalize hW0 : w9.drew = w10 at *; clear hW0; have k10 : Below w.heap.size w w10 := ext_step k9 (by omega) hb; have p10 := hb.size; have bx0_0 := ccell hb _ _ _ bx0_0; have bx1_0 := ccell hb _ _ _ bx1_0; have bx2_0 := ccell hb _ _ _ bx2_0; have bx3_0 := ccell hb _ _ _ bx3_0; have bl0 := Nat.lt_of_lt_of_le bl0 hb.size; have bl1 := Nat.lt_of_lt_of_le bl1 hb.size; have bl2 := Nat.lt_of_lt_of_le bl2 hb.size; have bl3 := Nat.lt_of_lt_of_le bl3 hb.size; have r_a := r_a.below (hb.mono (by omega)); have r_v := r_v.below (hb.mono (by omega)); have o_v := own_ext o_v hb; have r_x := r_x.below (hb.mono (by omega)); have o_x := own_ext o_x hb; have r_g := r_g.below (hb.mono (by omega)); have o_g := own_ext o_g hb; clear hb; refine (toMemory_c _ _ _ l _ hn_a hs_a (r_a.more (by omega))).mono ?_; rintro e w11 ⟨g_z, rfl, hg_z, b_z, hb⟩; have k11 : Below w.heap.size w w11 := ext_step k10 (by omega) hb; have p11 := hb.size; have bx0_0 := ccell hb _ _ _ bx0_0; have bx1_0 := ccell hb _ _ _ bx1_0; have bx2_0 := ccell hb _ _ _ bx2_0; have bx3_0 := ccell hb _ _ _ bx3_0; have bl0 := Nat.lt_of_lt_of_le bl0 hb.size; have bl1 := Nat.lt_of_lt_of_le bl1 hb.size; have bl2 := Nat.lt_of_lt_of_le bl2 hb.size; have bl3 := Nat.lt_of_lt_of_le bl3 hb.size; have r_a := r_a.below (hb.mono (by omega)); have r_v := r_v.below (hb.mono (by omega)); have o_v := own_ext o_v hb; have r_x := r_x.below (hb.mono (by omega)); have o_x := own_ext o_x hb; have r_g := r_g.below (hb.mono (by omega)); have o_g := own_ext o_g hb; have r_z := b_z.reads (size := 1) (n := n) (by rw [flatMap_len _ 1 (fun _ => rfl), hn_a]); have o_z := b_z.own (base := w10.heap.size) (size := 1) (n := n) hg_z (by rw [flatMap_len _ 1 (fun _ => rfl), hn_a]) (by unfold maxLen; omega) rfl; have u_z := fun k hk => (o_z.lt k hk).2; clear hb)
        | (go_at_call 19; refine (eqMemory_c _ _ _ _ _ l _ hn_a (by omega) (r_x.more (by omega)) (r_z.more (by omega))).mono ?_; rintro e w12 ⟨rfl, hb⟩; have k12 : Below w.heap.size w w12 := ext_step k11 (by omega) hb; have p12 := hb.size; have bx0_0 := ccell hb _ _ _ bx0_0; have bx1_0 := ccell hb _ _ _ bx1_0; have bx2_0 := ccell hb _ _ _ bx2_0; have bx3_0 := ccell hb _ _ _ bx3_0; have bl0 := Nat.lt_of_lt_of_le bl0 hb.size; have bl1 := Nat.lt_of_lt_of_le bl1 hb.size; have bl2 := Nat.lt_of_lt_of_le bl2 hb.size; have bl3 := Nat.lt_of_lt_of_le bl3 hb.size; have r_a := r_a.below (hb.mono (by omega)); have r_v := r_v.below (hb.mono (by omega)); have o_v := own_ext o_v hb; have r_x := r_x.below (hb.mono (by omega)); have o_x := own_ext o_x hb; have r_g := r_g.below (hb.mono (by omega)); have o_g := own_ext o_g hb; have r_z := r_z.below (hb.mono (by omega)); have o_z := own_ext o_z hb; clear hb))
    go_wp2_with fail
    refine (markMemory_c _ _ _ _ _ _ _ o_x (by omega) (by omega) (by omega)).mono ?_
    rintro e w13 ⟨rfl, om, hg⟩
    have k13 : Below w.heap.size w w13 := below_app k12 (own_base o_x (by omega)) hg (by omega)
    have p13 := hg.size
    have bx0_0 := cell_off hg bx0_0 (fun g h1 => by have := (o_x.lt g h1).1; have := u_x g h1; omega)
    have bx1_0 := cell_off hg bx1_0 (fun g h1 => by have := (o_x.lt g h1).1; have := u_x g h1; omega)
    have bx2_0 := cell_off hg bx2_0 (fun g h1 => by have := (o_x.lt g h1).1; have := u_x g h1; omega)
    have bx3_0 := cell_off hg bx3_0 (fun g h1 => by have := (o_x.lt g h1).1; have := u_x g h1; omega)
    have bl0 := Nat.lt_of_lt_of_le bl0 hg.size
    have bl1 := Nat.lt_of_lt_of_le bl1 hg.size
    have bl2 := Nat.lt_of_lt_of_le bl2 hg.size
    have bl3 := Nat.lt_of_lt_of_le bl3 hg.size
    have r_a := r_a.grown hg (by omega) (fun g hg => Nat.le_trans (by omega) (o_x.lt g hg).1)
    have r_v := r_v.grown hg (by omega) (fun g hg => Nat.le_trans (by omega) (o_x.lt g hg).1)
    have o_v := own_far o_v hg (fun g h1 h2 => by have := u_v g h1; have := (o_x.lt g h2).1; omega)
    have o_g := own_far o_g hg (fun g h1 h2 => by have := (o_g.lt g h1).1; have := u_x g h2; omega)
    have r_g := (Reads.of_own o_g)
    have o_x := om
    have r_x := Reads.of_own o_x
    clear hg om
    go_wp2_with fail
    refine (eqMemory_c _ _ _ _ _ lw _ hn_v (by omega) (r_g.more (by omega)) (r_v.more (by omega))).mono ?_
    rintro e w14 ⟨rfl, hb⟩
    have k14 : Below w.heap.size w w14 := ext_step k13 (by omega) hb
    have p14 := hb.size
    have bx0_0 := ccell hb _ _ _ bx0_0
    have bx1_0 := ccell hb _ _ _ bx1_0
    have bx2_0 := ccell hb _ _ _ bx2_0
    have bx3_0 := ccell hb _ _ _ bx3_0
    have bl0 := Nat.lt_of_lt_of_le bl0 hb.size
    have bl1 := Nat.lt_of_lt_of_le bl1 hb.size
    have bl2 := Nat.lt_of_lt_of_le bl2 hb.size
    have bl3 := Nat.lt_of_lt_of_le bl3 hb.size
    have r_a := r_a.below (hb.mono (by omega))
    have r_v := r_v.below (hb.mono (by omega))
    have o_v := own_ext o_v hb
    have r_g := r_g.below (hb.mono (by omega))
    have o_g := own_ext o_g hb
    clear hb
    go_wp2_with fail
    refine (markMemory_c _ _ _ _ _ _ _ o_g (by omega) (by omega) (by omega)).mono ?_
    rintro e w15 ⟨rfl, om, hg⟩
    have k15 : Below w.heap.size w w15 := below_app k14 (own_base o_g (by omega)) hg (by omega)
    have p15 := hg.size
    have bx0_0 := cell_off hg bx0_0 (fun g h1 => by have := (o_g.lt g h1).1; have := u_g g h1; omega)
    have bx1_0 := cell_off hg bx1_0 (fun g h1 => by have := (o_g.lt g h1).1; have := u_g g h1; omega)
    have bx2_0 := cell_off hg bx2_0 (fun g h1 => by have := (o_g.lt g h1).1; have := u_g g h1; omega)
    have bx3_0 := cell_off hg bx3_0 (fun g h1 => by have := (o_g.lt g h1).1; have := u_g g h1; omega)
    have bl0 := Nat.lt_of_lt_of_le bl0 hg.size
    have bl1 := Nat.lt_of_lt_of_le bl1 hg.size
    have bl2 := Nat.lt_of_lt_of_le bl2 hg.size
    have bl3 := Nat.lt_of_lt_of_le bl3 hg.size
    have r_a := r_a.grown hg (by omega) (fun g hg => Nat.le_trans (by omega) (o_g.lt g hg).1)
    have r_v := r_v.grown hg (by omega) (fun g hg => Nat.le_trans (by omega) (o_g.lt g hg).1)
    have o_v := own_far o_v hg (fun g h1 h2 => by have := u_v g h1; have := (o_g.lt g h2).1; omega)
    have o_g := om
    have r_g := Reads.of_own o_g
    clear hg om
    go_wp2_with fail
    refine (heldMemory_c _ _ _ _ _ (r_g.more (by omega)) (by omega) (by omega) (by omega)).mono ?_
    rintro e w16 ⟨rfl, hb⟩
    have k16 : Below w.heap.size w w16 := ext_step k15 (by omega) hb
    have p16 := hb.size
    have bx0_0 := ccell hb _ _ _ bx0_0
    have bx1_0 := ccell hb _ _ _ bx1_0
    have bx2_0 := ccell hb _ _ _ bx2_0
    have bx3_0 := ccell hb _ _ _ bx3_0
    have bl0 := Nat.lt_of_lt_of_le bl0 hb.size
    have bl1 := Nat.lt_of_lt_of_le bl1 hb.size
    have bl2 := Nat.lt_of_lt_of_le bl2 hb.size
    have bl3 := Nat.lt_of_lt_of_le bl3 hb.size
    have r_a := r_a.below (hb.mono (by omega))
    have r_v := r_v.below (hb.mono (by omega))
    have o_v := own_ext o_v hb
    have r_g := r_g.below (hb.mono (by omega))
    have o_g := own_ext o_g hb
    clear hb
    go_wp2_with fail
    refine (toMemory_c _ _ _ l _ hn_a hs_a (r_a.more (by omega))).mono ?_
    rintro e w17 ⟨g_t, rfl, hg_t, b_t, hb⟩
    have k17 : Below w.heap.size w w17 := ext_step k16 (by omega) hb
    have p17 := hb.size
    have bx0_0 := ccell hb _ _ _ bx0_0
    have bx1_0 := ccell hb _ _ _ bx1_0
    have bx2_0 := ccell hb _ _ _ bx2_0
    have bx3_0 := ccell hb _ _ _ bx3_0
    have bl0 := Nat.lt_of_lt_of_le bl0 hb.size
    have bl1 := Nat.lt_of_lt_of_le bl1 hb.size
    have bl2 := Nat.lt_of_lt_of_le bl2 hb.size
    have bl3 := Nat.lt_of_lt_of_le bl3 hb.size
    have r_a := r_a.below (hb.mono (by omega))
    have r_v := r_v.below (hb.mono (by omega))
    have o_v := own_ext o_v hb
    have r_g := r_g.below (hb.mono (by omega))
    have o_g := own_ext o_g hb
    have r_t := b_t.reads (size := 1) (n := n) (by rw [flatMap_len _ 1 (fun _ => rfl), hn_a])
    have o_t := b_t.own (base := w16.heap.size) (size := 1) (n := n) hg_t (by rw [flatMap_len _ 1 (fun _ => rfl), hn_a]) (by unfold maxLen; omega) rfl
    have u_t := fun k hk => (o_t.lt k hk).2
    clear hb
    go_wp2_with fail
    refine (himpl _ _ _ (by omega) (r_t.more (by omega))).mono ?_
    rintro e w18 ⟨A_h, c_h, rfl, o_h, hb⟩
    have k18 : Below w.heap.size w w18 := ext_step k17 (by omega) hb
    have p18 := hb.size
    have bx0_0 := ccell hb _ _ _ bx0_0
    have bx1_0 := ccell hb _ _ _ bx1_0
    have bx2_0 := ccell hb _ _ _ bx2_0
    have bx3_0 := ccell hb _ _ _ bx3_0
    have bl0 := Nat.lt_of_lt_of_le bl0 hb.size
    have bl1 := Nat.lt_of_lt_of_le bl1 hb.size
    have bl2 := Nat.lt_of_lt_of_le bl2 hb.size
    have bl3 := Nat.lt_of_lt_of_le bl3 hb.size
    have r_a := r_a.below (hb.mono (by omega))
    have r_v := r_v.below (hb.mono (by omega))
    have o_v := own_ext o_v hb
    have r_g := r_g.below (hb.mono (by omega))
    have o_g := own_ext o_g hb
    have r_t := r_t.below (hb.mono (by omega))
    have o_t := own_ext o_t hb
    have r_h := Reads.of_own o_h
    have u_h := fun k hk => (o_h.lt k hk).2
    clear hb
    go_wp2_with fail
    have hb : Below w18.heap.size w18 (w18.alloc (.cells #[.slice A_h n c_h] 27)) := by go_grown
    have bx4_0 : (w18.alloc (.cells #[.slice A_h n c_h] 27)).cell? ⟨w18.heap.size, 0, none⟩ = some (.slice A_h n c_h) := by simp [go_sem]
    have bl4 : w18.heap.size < (w18.alloc (.cells #[.slice A_h n c_h] 27)).heap.size := by go_size
    generalize hW0 : (w18.alloc (.cells #[.slice A_h n c_h] 27)) = w19 at *
    clear hW0
    have k19 : Below w.heap.size w w19 := ext_step k18 (by omega) hb
    have p19 := hb.size
    have bx0_0 := ccell hb _ _ _ bx0_0
    have bx1_0 := ccell hb _ _ _ bx1_0
    have bx2_0 := ccell hb _ _ _ bx2_0
    have bx3_0 := ccell hb _ _ _ bx3_0
    have bl0 := Nat.lt_of_lt_of_le bl0 hb.size
    have bl1 := Nat.lt_of_lt_of_le bl1 hb.size
    have bl2 := Nat.lt_of_lt_of_le bl2 hb.size
    have bl3 := Nat.lt_of_lt_of_le bl3 hb.size
    have r_a := r_a.below (hb.mono (by omega))
    have r_v := r_v.below (hb.mono (by omega))
    have o_v := own_ext o_v hb
    have r_g := r_g.below (hb.mono (by omega))
    have o_g := own_ext o_g hb
    have r_h := r_h.below (hb.mono (by omega))
    have o_h := own_ext o_h hb
    clear hb
    refine (eqMemory_c _ _ _ _ _ lw _ hn_v (by omega) (r_h.more (by omega)) (r_v.more (by omega))).mono ?_
    rintro e w20 ⟨rfl, hb⟩
    have k20 : Below w.heap.size w w20 := ext_step k19 (by omega) hb
    have p20 := hb.size
    have bx0_0 := ccell hb _ _ _ bx0_0
    have bx1_0 := ccell hb _ _ _ bx1_0
    have bx2_0 := ccell hb _ _ _ bx2_0
    have bx3_0 := ccell hb _ _ _ bx3_0
    have bx4_0 := ccell hb _ _ _ bx4_0
    have bl0 := Nat.lt_of_lt_of_le bl0 hb.size
    have bl1 := Nat.lt_of_lt_of_le bl1 hb.size
    have bl2 := Nat.lt_of_lt_of_le bl2 hb.size
    have bl3 := Nat.lt_of_lt_of_le bl3 hb.size
    have bl4 := Nat.lt_of_lt_of_le bl4 hb.size
    have r_a := r_a.below (hb.mono (by omega))
    have r_v := r_v.below (hb.mono (by omega))
    have o_v := own_ext o_v hb
    have r_g := r_g.below (hb.mono (by omega))
    have o_g := own_ext o_g hb
    have r_h := r_h.below (hb.mono (by omega))
    have o_h := own_ext o_h hb
    clear hb
    go_wp2_with fail
    refine (heldMemory_c _ _ _ _ _ (r_g.more (by omega)) (by omega) (by omega) (by omega)).mono ?_
    rintro e w21 ⟨rfl, hb⟩
    have k21 : Below w.heap.size w w21 := ext_step k20 (by omega) hb
    have p21 := hb.size
    have bx0_0 := ccell hb _ _ _ bx0_0
    have bx1_0 := ccell hb _ _ _ bx1_0
    have bx2_0 := ccell hb _ _ _ bx2_0
    have bx3_0 := ccell hb _ _ _ bx3_0
    have bx4_0 := ccell hb _ _ _ bx4_0
    have bl0 := Nat.lt_of_lt_of_le bl0 hb.size
    have bl1 := Nat.lt_of_lt_of_le bl1 hb.size
    have bl2 := Nat.lt_of_lt_of_le bl2 hb.size
    have bl3 := Nat.lt_of_lt_of_le bl3 hb.size
    have bl4 := Nat.lt_of_lt_of_le bl4 hb.size
    have r_a := r_a.below (hb.mono (by omega))
    have r_g := r_g.below (hb.mono (by omega))
    have o_g := own_ext o_g hb
    clear hb
    go_wp2
    go_ret
    exact ⟨rfl, k21⟩
end Go.Proofs.Yteajedcoidljhaa
