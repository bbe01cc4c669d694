/- The walk of laws.FnExactDmaRead. -/
import Derived.Test.YtjeenjblenpinaaConvMap
import Derived.Test.YtjeenjblenpinaaConvMem
import Derived.Test.YtjeenjblenpinaaDmaRead
import Derived.Deep.RegionHeld3
import Derived.Deep.DeepCutAuto
namespace Go.Proofs.Ytjeenjblenpinaa
set_option linter.unusedSimpArgs false
set_option linter.unusedVariables false
open Go.RowKit Go.ChangeShapes Go.WideShapes
set_option maxRecDepth 100000 in
set_option maxHeartbeats 4000000 in
theorem fnExactDmaRead_walk (A : Option Addr) (n c : Nat) (l : List Mapping) (A' : Option Addr) (n' c' : Nat) (l' : List ByteArray) (d at_ x : Int) (w : World) (hs : SlMapping w A n c l) (hs' : SlStr w A' n' c' l') (q0 : I64 d) (q1 : I64 at_) (q2 : I64 x) :
    Calls Try.prog 3 #[.slice A n c, .agg #[.slice A' n' c'], .int .i64 d, .int .i64 at_, .int .i64 x] w fun e w' => e = .returned (.bool true) ∧ Below w.heap.size w w' := by
  obtain ⟨⟨hn_a, hnc_a, hc_a, r_a⟩, hb_a⟩ := hs
  obtain ⟨⟨hn_b, hnc_b, hc_b, r_b⟩, hb_b⟩ := hs'
  have hspec := fun A c A' c' w => fun (hm : n ≤ 1048576) (hm' : n' ≤ 1048576) hr hr' => specDmaRead_c A A' n c n' c' l l' w hn_a hn_b hm hm' hr hr' d at_ x q1 q2
  have himpl := fun A c A' c' w => fun (hm : n ≤ 1048576) (hm' : n' ≤ 1048576) hr hr' => implDmaRead_c A A' n c n' c' l l' w hn_a hn_b hm hm' hr hr' d at_ x q1 q2
  generalize dmaR l l' d at_ x = so at *
  generalize dmaOk l l' d at_ x false = bo at *
  have ht_b := totS_nonneg l'
  by_cases hz_a : (1048576 : Int) - n < 0
  · skip
    have hi_a := Lib.hid (szI_neg hz_a)
    go_enter Try.func3, Try.ntmps3
    go_wp2_with fail
    have k0 : Below w.heap.size w (w.alloc (.cells #[.slice A' n' c'] 25)) := by go_grown
    have bx0_0 : (w.alloc (.cells #[.slice A' n' c'] 25)).cell? ⟨w.heap.size, 0, none⟩ = some (.slice A' n' c') := by simp [go_sem]
    have bl0 : w.heap.size < (w.alloc (.cells #[.slice A' n' c'] 25)).heap.size := by go_size
    have r_a := r_a.below k0
    have r_b := r_b.below k0
    have p0 := k0.size
    generalize hW0 : (w.alloc (.cells #[.slice A' n' c'] 25)) = w0 at *
    clear hW0
    refine (szMappingS_c2 _ _ _ (1048576 : Int) _ (by omega) (by omega) (by omega)).mono ?_
    rintro e w_ ⟨rfl, rfl⟩
    rw [hi_a.out]
    go_wp2
    go_ret
    exact ⟨rfl, k0⟩
  have hi_a := Lib.hid (szI_nn hz_a)
  by_cases hz_b : ((1048576 : Int) - n) - n' - totS l' < 0
  · skip
    have hi_b := Lib.hid (szI_neg hz_b)
    go_enter Try.func3, Try.ntmps3
    go_wp2_with fail
    have k0 : Below w.heap.size w (w.alloc (.cells #[.slice A' n' c'] 25)) := by go_grown
    have bx0_0 : (w.alloc (.cells #[.slice A' n' c'] 25)).cell? ⟨w.heap.size, 0, none⟩ = some (.slice A' n' c') := by simp [go_sem]
    have bl0 : w.heap.size < (w.alloc (.cells #[.slice A' n' c'] 25)).heap.size := by go_size
    have r_a := r_a.below k0
    have r_b := r_b.below k0
    have p0 := k0.size
    generalize hW0 : (w.alloc (.cells #[.slice A' n' c'] 25)) = w0 at *
    clear hW0
    refine (szMappingS_c2 _ _ _ (1048576 : Int) _ (by omega) (by omega) (by omega)).mono ?_
    rintro e w_ ⟨rfl, rfl⟩
    rw [hi_a.out]
    go_wp2_with fail
    refine (szMemory_c _ _ _ l' ((1048576 : Int) - n) _ (by omega) (by omega) hn_b (by omega) (r_b.more (by omega)) hb_b).mono ?_
    rintro e w1 ⟨rfl, hb⟩
    have k1 : Below w.heap.size w w1 := ext_step k0 (by omega) hb
    have p1 := hb.size
    have bx0_0 := ccell hb _ _ _ bx0_0
    have bl0 := Nat.lt_of_lt_of_le bl0 hb.size
    have r_a := r_a.below (hb.mono (by omega))
    have r_b := r_b.below (hb.mono (by omega))
    rw [hi_b.out]
    clear hb
    go_wp2
    go_ret
    exact ⟨rfl, k1⟩
  have hi_b := Lib.hid (szI_nn hz_b)
  go_enter Try.func3, Try.ntmps3
  go_wp2_with fail
  have k0 : Below w.heap.size w (w.alloc (.cells #[.slice A' n' c'] 25)) := by go_grown
  have bx0_0 : (w.alloc (.cells #[.slice A' n' c'] 25)).cell? ⟨w.heap.size, 0, none⟩ = some (.slice A' n' c') := by simp [go_sem]
  have bl0 : w.heap.size < (w.alloc (.cells #[.slice A' n' c'] 25)).heap.size := by go_size
  have r_a := r_a.below k0
  have r_b := r_b.below k0
  have p0 := k0.size
  generalize hW0 : (w.alloc (.cells #[.slice A' n' c'] 25)) = w0 at *
  clear hW0
  refine (szMappingS_c2 _ _ _ (1048576 : Int) _ (by omega) (by omega) (by omega)).mono ?_
  rintro e w_ ⟨rfl, rfl⟩
  rw [hi_a.out]
  go_wp2_with fail
  refine (szMemory_c _ _ _ l' ((1048576 : Int) - n) _ (by omega) (by omega) hn_b (by omega) (r_b.more (by omega)) hb_b).mono ?_
  rintro e w1 ⟨rfl, hb⟩
  have k1 : Below w.heap.size w w1 := ext_step k0 (by omega) hb
  have p1 := hb.size
  have bx0_0 := ccell hb _ _ _ bx0_0
  have bl0 := Nat.lt_of_lt_of_le bl0 hb.size
  have r_a := r_a.below (hb.mono (by omega))
  have r_b := r_b.below (hb.mono (by omega))
  rw [hi_b.out]
  clear hb
  have hs_a : n ≤ 1048576 := by omega
  have hs_b : n' ≤ 1048576 := by omega
  go_upto_region 8 with fail
  go_cut [12, 13] (fun s12 s13 wx => s12 = .string so ∧ s13 = .bool bo ∧ Below w1.heap.size w1 wx)
  case first =>
    have kc : Below w1.heap.size w1 w1.drew := (Below.refl _ _).drew
    have hb := kc
    have pz := kc.size
    have oo_bx0_0 := bx0_0
    have bx0_0 := ccell hb _ _ _ bx0_0
    have r_a := r_a.below (hb.mono (by omega))
    have r_b := r_b.below (hb.mono (by omega))
    clear hb pz
    go_region_held3 (fun w' => w'.cell? ⟨w.heap.size, 0, none⟩ = some (.slice A' n' c')) (first | exact bx0_0 | exact oo_bx0_0)
      (first
        | (go_at_call 18; refine (toMappingS_c _ _ _ l _ hn_a hs_a (r_a.more (by have := kc.size; omega))).mono ?_; rintro e wt ⟨g_t, rfl, hg_t, b_t, hb⟩; have pz := kc.size; have bx0_0 := ccell hb _ _ _ bx0_0; have r_a := r_a.below (hb.mono (by omega)); have r_b := r_b.below (hb.mono (by omega)); (try (have r_u := r_u.to hb)); have kc := ext_step kc kc.size hb; have r_t := b_t.reads (size := 4) (n := n) (by rw [flatMap_len _ 4 (fun _ => rfl), hn_a]); clear hb pz)
        | (go_at_call 19; refine (toMemory_c _ _ _ l' _ hn_b hs_b (r_b.more (by have := kc.size; omega))).mono ?_; rintro e wt ⟨g_u, rfl, hg_u, b_u, hb⟩; have pz := kc.size; have bx0_0 := ccell hb _ _ _ bx0_0; have r_a := r_a.below (hb.mono (by omega)); have r_b := r_b.below (hb.mono (by omega)); (try (have r_t := r_t.to hb)); have kc := ext_step kc kc.size hb; have r_u := b_u.reads (size := 1) (n := n') (by rw [flatMap_len _ 1 (fun _ => rfl), hn_b]); clear hb pz)
        | (go_at_call 17; refine (hspec _ _ _ _ _ hs_a hs_b r_t r_u).mono ?_; rintro e wt ⟨rfl, hb⟩; have pv := kc.size; have bx0_0 := ccell hb _ _ _ bx0_0; have kc := ext_step kc kc.size hb))
    all_goals (go_wp2_with fail; go_meet; exact ⟨rfl, rfl, kc⟩)
  case rest =>
    obtain ⟨rfl, rfl, hb⟩ := hcut
    generalize hW0 : wc = w2 at *
    clear hW0
    have k2 : Below w.heap.size w w2 := ext_step k1 (by omega) hb
    have p2 := hb.size
    have bx0_0 := ccell hb _ _ _ bx0_0
    have bl0 := Nat.lt_of_lt_of_le bl0 hb.size
    have r_a := r_a.below (hb.mono (by omega))
    have r_b := r_b.below (hb.mono (by omega))
    clear hb
    go_wp2_with fail
    refine (toMappingS_c _ _ _ l _ hn_a hs_a (r_a.more (by omega))).mono ?_
    rintro e w3 ⟨g_x, rfl, hg_x, b_x, hb⟩
    have k3 : Below w.heap.size w w3 := ext_step k2 (by omega) hb
    have p3 := hb.size
    have bx0_0 := ccell hb _ _ _ bx0_0
    have bl0 := Nat.lt_of_lt_of_le bl0 hb.size
    have r_a := r_a.below (hb.mono (by omega))
    have r_b := r_b.below (hb.mono (by omega))
    have r_x := b_x.reads (size := 4) (n := n) (by rw [flatMap_len _ 4 (fun _ => rfl), hn_a])
    have o_x := b_x.own (base := w2.heap.size) (size := 4) (n := n) hg_x (by rw [flatMap_len _ 4 (fun _ => rfl), hn_a]) (by unfold maxLen; omega) rfl
    have u_x := fun k hk => (o_x.lt k hk).2
    clear hb
    go_wp2_with fail
    refine (toMemory_c _ _ _ l' _ hn_b hs_b (r_b.more (by omega))).mono ?_
    rintro e w4 ⟨g_y, rfl, hg_y, b_y, hb⟩
    have k4 : Below w.heap.size w w4 := ext_step k3 (by omega) hb
    have p4 := hb.size
    have bx0_0 := ccell hb _ _ _ bx0_0
    have bl0 := Nat.lt_of_lt_of_le bl0 hb.size
    have r_a := r_a.below (hb.mono (by omega))
    have r_b := r_b.below (hb.mono (by omega))
    have r_x := r_x.below (hb.mono (by omega))
    have o_x := own_ext o_x hb
    have r_y := b_y.reads (size := 1) (n := n') (by rw [flatMap_len _ 1 (fun _ => rfl), hn_b])
    have o_y := b_y.own (base := w3.heap.size) (size := 1) (n := n') hg_y (by rw [flatMap_len _ 1 (fun _ => rfl), hn_b]) (by unfold maxLen; omega) rfl
    have u_y := fun k hk => (o_y.lt k hk).2
    clear hb
    go_wp2_with fail
    have hb : Below w4.heap.size w4 (w4.alloc (.cells #[.slice (some ⟨g_y, 0, none⟩) n' n'] 32)) := by go_grown
    have bx1_0 : (w4.alloc (.cells #[.slice (some ⟨g_y, 0, none⟩) n' n'] 32)).cell? ⟨w4.heap.size, 0, none⟩ = some (.slice (some ⟨g_y, 0, none⟩) n' n') := by simp [go_sem]
    have bl1 : w4.heap.size < (w4.alloc (.cells #[.slice (some ⟨g_y, 0, none⟩) n' n'] 32)).heap.size := by go_size
    generalize hW0 : (w4.alloc (.cells #[.slice (some ⟨g_y, 0, none⟩) n' n'] 32)) = w5 at *
    clear hW0
    have k5 : Below w.heap.size w w5 := ext_step k4 (by omega) hb
    have p5 := hb.size
    have bx0_0 := ccell hb _ _ _ bx0_0
    have bl0 := Nat.lt_of_lt_of_le bl0 hb.size
    have r_a := r_a.below (hb.mono (by omega))
    have r_b := r_b.below (hb.mono (by omega))
    have r_x := r_x.below (hb.mono (by omega))
    have o_x := own_ext o_x hb
    have r_y := r_y.below (hb.mono (by omega))
    have o_y := own_ext o_y hb
    clear hb
    refine (himpl _ _ _ _ _ hs_a hs_b (r_x.more (by omega)) (r_y.more (by omega))).mono ?_
    rintro e w6 ⟨rfl, hb⟩
    have k6 : Below w.heap.size w w6 := ext_step k5 (by omega) hb
    have p6 := hb.size
    have bx0_0 := ccell hb _ _ _ bx0_0
    have bx1_0 := ccell hb _ _ _ bx1_0
    have bl0 := Nat.lt_of_lt_of_le bl0 hb.size
    have bl1 := Nat.lt_of_lt_of_le bl1 hb.size
    have r_a := r_a.below (hb.mono (by omega))
    have r_b := r_b.below (hb.mono (by omega))
    have r_x := r_x.below (hb.mono (by omega))
    have o_x := own_ext o_x hb
    have r_y := r_y.below (hb.mono (by omega))
    have o_y := own_ext o_y hb
    clear hb
    go_wp2_with fail
    refine (toMappingS_c _ _ _ l _ hn_a hs_a (r_a.more (by omega))).mono ?_
    rintro e w7 ⟨g_z, rfl, hg_z, b_z, hb⟩
    have k7 : Below w.heap.size w w7 := ext_step k6 (by omega) hb
    have p7 := hb.size
    have bx0_0 := ccell hb _ _ _ bx0_0
    have bx1_0 := ccell hb _ _ _ bx1_0
    have bl0 := Nat.lt_of_lt_of_le bl0 hb.size
    have bl1 := Nat.lt_of_lt_of_le bl1 hb.size
    have r_a := r_a.below (hb.mono (by omega))
    have r_b := r_b.below (hb.mono (by omega))
    have r_x := r_x.below (hb.mono (by omega))
    have o_x := own_ext o_x hb
    have r_y := r_y.below (hb.mono (by omega))
    have o_y := own_ext o_y hb
    have r_z := b_z.reads (size := 4) (n := n) (by rw [flatMap_len _ 4 (fun _ => rfl), hn_a])
    have o_z := b_z.own (base := w6.heap.size) (size := 4) (n := n) hg_z (by rw [flatMap_len _ 4 (fun _ => rfl), hn_a]) (by unfold maxLen; omega) rfl
    have u_z := fun k hk => (o_z.lt k hk).2
    clear hb
    go_wp2_with fail
    refine (eqMappingS_c _ _ _ _ _ l _ hn_a (by omega) (r_x.more (by omega)) (r_z.more (by omega))).mono ?_
    rintro e w8 ⟨rfl, hb⟩
    have k8 : Below w.heap.size w w8 := ext_step k7 (by omega) hb
    have p8 := hb.size
    have bx0_0 := ccell hb _ _ _ bx0_0
    have bx1_0 := ccell hb _ _ _ bx1_0
    have bl0 := Nat.lt_of_lt_of_le bl0 hb.size
    have bl1 := Nat.lt_of_lt_of_le bl1 hb.size
    have r_a := r_a.below (hb.mono (by omega))
    have r_b := r_b.below (hb.mono (by omega))
    have r_x := r_x.below (hb.mono (by omega))
    have o_x := own_ext o_x hb
    have r_y := r_y.below (hb.mono (by omega))
    have o_y := own_ext o_y hb
    have r_z := r_z.below (hb.mono (by omega))
    have o_z := own_ext o_z hb
    clear hb
    go_wp2_with fail
    go_region_held3 (fun w' => w'.cell? ⟨w4.heap.size, 0, none⟩ = some (.slice (some ⟨g_y, 0, none⟩) n' n') ∧ w'.cell? ⟨w.heap.size, 0, none⟩ = some (.slice A' n' c')) (exact ⟨bx1_0, bx0_0⟩)
      (first
        | (go_at_call 19; have hb : Below w8.heap.size w8 w8.drew := (Below.refl _ _).drew; generalize hW0 : w8.drew = w9 at *; clear hW0; have k9 : Below w.heap.size w w9 := ext_step k8 (by omega) hb; have p9 := hb.size; have bx0_0 := ccell hb _ _ _ bx0_0; have bx1_0 := ccell hb _ _ _ bx1_0; have bl0 := Nat.lt_of_lt_of_le bl0 hb.size; have bl1 := Nat.lt_of_lt_of_le bl1 hb.size; have r_a := r_a.below (hb.mono (by omega)); have r_b := r_b.below (hb.mono (by omega)); have r_x := r_x.below (hb.mono (by omega)); have o_x := own_ext o_x hb; have r_y := r_y.below (hb.mono (by omega)); have o_y := own_ext o_y hb; clear hb; refine (toMemory_c _ _ _ l' _ hn_b hs_b (r_b.more (by omega))).mono ?_; rintro e w10 ⟨g_z, rfl, hg_z, b_z, hb⟩; have k10 : Below w.heap.size w w10 := ext_step k9 (by omega) hb; have p10 := hb.size; have bx0_0 := ccell hb _ _ _ bx0_0; have bx1_0 := ccell hb _ _ _ bx1_0; have bl0 := Nat.lt_of_lt_of_le bl0 hb.size; have bl1 := Nat.lt_of_lt_of_le bl1 hb.size; have r_a := r_a.below (hb.mono (by omega)); have r_b := r_b.below (hb.mono (by omega)); have r_x := r_x.below (hb.mono (by omega)); have o_x := own_ext o_x hb; have r_y := r_y.below (hb.mono (by omega)); have o_y := own_ext o_y hb; have r_z := b_z.reads (size := 1) (n := n') (by rw [flatMap_len _ 1 (fun _ => rfl), hn_b]); have o_z := b_z.own (base := w9.heap.size) (size := 1) (n := n') hg_z (by rw [flatMap_len _ 1 (fun _ => rfl), hn_b]) (by unfold maxLen; omega) rfl; have u_z := fun k hk => (o_z.lt k hk).2; clear hb)
        | (go_at_call 22; refine (eqMemory_c _ _ _ _ _ l' _ hn_b (by omega) (r_y.more (by omega)) (r_z.more (by omega))).mono ?_; rintro e w11 ⟨rfl, hb⟩; have k11 : Below w.heap.size w w11 := ext_step k10 (by omega) hb; have p11 := hb.size; have bx0_0 := ccell hb _ _ _ bx0_0; have bx1_0 := ccell hb _ _ _ bx1_0; have bl0 := Nat.lt_of_lt_of_le bl0 hb.size; have bl1 := Nat.lt_of_lt_of_le bl1 hb.size; have r_a := r_a.below (hb.mono (by omega)); have r_b := r_b.below (hb.mono (by omega)); have r_x := r_x.below (hb.mono (by omega)); have o_x := own_ext o_x hb; have r_y := r_y.below (hb.mono (by omega)); have o_y := own_ext o_y hb; have r_z := r_z.below (hb.mono (by omega)); have o_z := own_ext o_z hb; clear hb))
    go_wp2
    go_ret
    exact ⟨rfl, k11⟩
end Go.Proofs.Ytjeenjblenpinaa
