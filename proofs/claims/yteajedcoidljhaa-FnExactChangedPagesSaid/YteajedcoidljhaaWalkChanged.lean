/- The walk of laws.FnExactChangedPages. -/
import Derived.Test.YteajedcoidljhaaConvMem
import Derived.Test.YteajedcoidljhaaConvInt
import Derived.Test.YteajedcoidljhaaChanged
import Derived.Deep.RegionHeld3
import Derived.Deep.DeepCutAuto
namespace Go.Proofs.Yteajedcoidljhaa
set_option linter.unusedSimpArgs false
set_option linter.unusedVariables false
open Go.RowKit Go.ChangeShapes Go.WideShapes
set_option maxRecDepth 100000 in
set_option maxHeartbeats 4000000 in
theorem fnExactChangedPages_walk (A : Option Addr) (n c : Nat) (l : List ByteArray) (A' : Option Addr) (n' c' : Nat) (l' : List ByteArray) (w : World) (hs : SlStr w A n c l) (hs' : SlStr w A' n' c' l') :
    Calls Try.prog 7 #[.agg #[.slice A n c], .agg #[.slice A' n' c']] w fun e w' => e = .returned (.bool true) ∧ Below w.heap.size w w' := by
  obtain ⟨⟨hn_a, hnc_a, hc_a, r_a⟩, hb_a⟩ := hs
  obtain ⟨⟨hn_b, hnc_b, hc_b, r_b⟩, hb_b⟩ := hs'
  have hspec := fun A A' c c' w => fun (hm : n ≤ 1048576) (hm' : n' ≤ 1048576) hr hr' => specChangedPages_c A A' n n' c c' l l' w hn_a hn_b hm hm' hr hr'
  have himpl := fun A A' c c' w => fun (hm : n ≤ 1048576) (hm' : n' ≤ 1048576) hr hr' => implChangedPages_c A A' n n' c c' l l' w hn_a hn_b hm hm' hr hr'
  have hjn := chgK_len l l' n'
  generalize chgK l l' n' = lv at *
  obtain ⟨j, hn_v⟩ : ∃ j, lv.length = j := ⟨_, rfl⟩
  simp only [hn_v] at hspec himpl hjn
  have ht_a := totS_nonneg l
  have ht_b := totS_nonneg l'
  by_cases hz_a : (1048576 : Int) - n - totS l < 0
  · skip
    have hi_a := Lib.hid (szI_neg hz_a)
    go_enter Try.func7, Try.ntmps7
    go_wp2_with fail
    have k0 : Below w.heap.size w ((w.alloc (.cells #[.slice A n c] 24)).alloc (.cells #[.slice A' n' c'] 24)) := by go_grown
    have bx0_0 : ((w.alloc (.cells #[.slice A n c] 24)).alloc (.cells #[.slice A' n' c'] 24)).cell? ⟨w.heap.size, 0, none⟩ = some (.slice A n c) := by simp [go_sem]
    have bl0 : w.heap.size < ((w.alloc (.cells #[.slice A n c] 24)).alloc (.cells #[.slice A' n' c'] 24)).heap.size := by go_size
    have bx1_0 : ((w.alloc (.cells #[.slice A n c] 24)).alloc (.cells #[.slice A' n' c'] 24)).cell? ⟨w.heap.size + 1, 0, none⟩ = some (.slice A' n' c') := by simp [go_sem]
    have bl1 : w.heap.size + 1 < ((w.alloc (.cells #[.slice A n c] 24)).alloc (.cells #[.slice A' n' c'] 24)).heap.size := by go_size
    have r_a := r_a.below k0
    have r_b := r_b.below k0
    have p0 := k0.size
    generalize hW0 : ((w.alloc (.cells #[.slice A n c] 24)).alloc (.cells #[.slice A' n' c'] 24)) = w0 at *
    clear hW0
    refine (szMemory_c _ _ _ l (1048576 : Int) _ (by omega) (by omega) hn_a (by omega) (r_a.more (by omega)) hb_a).mono ?_
    rintro e w1 ⟨rfl, hb⟩
    have k1 : Below w.heap.size w w1 := ext_step k0 (by omega) hb
    have p1 := hb.size
    have bx0_0 := ccell hb _ _ _ bx0_0
    have bx1_0 := ccell hb _ _ _ bx1_0
    have bl0 := Nat.lt_of_lt_of_le bl0 hb.size
    have bl1 := Nat.lt_of_lt_of_le bl1 hb.size
    have r_a := r_a.below (hb.mono (by omega))
    have r_b := r_b.below (hb.mono (by omega))
    rw [hi_a.out]
    clear hb
    go_wp2
    go_ret
    exact ⟨rfl, k1⟩
  have hi_a := Lib.hid (szI_nn hz_a)
  by_cases hz_b : ((1048576 : Int) - n - totS l) - n' - totS l' < 0
  · skip
    have hi_b := Lib.hid (szI_neg hz_b)
    go_enter Try.func7, Try.ntmps7
    go_wp2_with fail
    have k0 : Below w.heap.size w ((w.alloc (.cells #[.slice A n c] 24)).alloc (.cells #[.slice A' n' c'] 24)) := by go_grown
    have bx0_0 : ((w.alloc (.cells #[.slice A n c] 24)).alloc (.cells #[.slice A' n' c'] 24)).cell? ⟨w.heap.size, 0, none⟩ = some (.slice A n c) := by simp [go_sem]
    have bl0 : w.heap.size < ((w.alloc (.cells #[.slice A n c] 24)).alloc (.cells #[.slice A' n' c'] 24)).heap.size := by go_size
    have bx1_0 : ((w.alloc (.cells #[.slice A n c] 24)).alloc (.cells #[.slice A' n' c'] 24)).cell? ⟨w.heap.size + 1, 0, none⟩ = some (.slice A' n' c') := by simp [go_sem]
    have bl1 : w.heap.size + 1 < ((w.alloc (.cells #[.slice A n c] 24)).alloc (.cells #[.slice A' n' c'] 24)).heap.size := by go_size
    have r_a := r_a.below k0
    have r_b := r_b.below k0
    have p0 := k0.size
    generalize hW0 : ((w.alloc (.cells #[.slice A n c] 24)).alloc (.cells #[.slice A' n' c'] 24)) = w0 at *
    clear hW0
    refine (szMemory_c _ _ _ l (1048576 : Int) _ (by omega) (by omega) hn_a (by omega) (r_a.more (by omega)) hb_a).mono ?_
    rintro e w1 ⟨rfl, hb⟩
    have k1 : Below w.heap.size w w1 := ext_step k0 (by omega) hb
    have p1 := hb.size
    have bx0_0 := ccell hb _ _ _ bx0_0
    have bx1_0 := ccell hb _ _ _ bx1_0
    have bl0 := Nat.lt_of_lt_of_le bl0 hb.size
    have bl1 := Nat.lt_of_lt_of_le bl1 hb.size
    have r_a := r_a.below (hb.mono (by omega))
    have r_b := r_b.below (hb.mono (by omega))
    rw [hi_a.out]
    clear hb
    go_wp2_with fail
    refine (szMemory_c _ _ _ l' ((1048576 : Int) - n - totS l) _ (by omega) (by omega) hn_b (by omega) (r_b.more (by omega)) hb_b).mono ?_
    rintro e w2 ⟨rfl, hb⟩
    have k2 : Below w.heap.size w w2 := ext_step k1 (by omega) hb
    have p2 := hb.size
    have bx0_0 := ccell hb _ _ _ bx0_0
    have bx1_0 := ccell hb _ _ _ bx1_0
    have bl0 := Nat.lt_of_lt_of_le bl0 hb.size
    have bl1 := Nat.lt_of_lt_of_le bl1 hb.size
    have r_a := r_a.below (hb.mono (by omega))
    have r_b := r_b.below (hb.mono (by omega))
    rw [hi_b.out]
    clear hb
    go_wp2
    go_ret
    exact ⟨rfl, k2⟩
  have hi_b := Lib.hid (szI_nn hz_b)
  go_enter Try.func7, Try.ntmps7
  go_wp2_with fail
  have k0 : Below w.heap.size w ((w.alloc (.cells #[.slice A n c] 24)).alloc (.cells #[.slice A' n' c'] 24)) := by go_grown
  have bx0_0 : ((w.alloc (.cells #[.slice A n c] 24)).alloc (.cells #[.slice A' n' c'] 24)).cell? ⟨w.heap.size, 0, none⟩ = some (.slice A n c) := by simp [go_sem]
  have bl0 : w.heap.size < ((w.alloc (.cells #[.slice A n c] 24)).alloc (.cells #[.slice A' n' c'] 24)).heap.size := by go_size
  have bx1_0 : ((w.alloc (.cells #[.slice A n c] 24)).alloc (.cells #[.slice A' n' c'] 24)).cell? ⟨w.heap.size + 1, 0, none⟩ = some (.slice A' n' c') := by simp [go_sem]
  have bl1 : w.heap.size + 1 < ((w.alloc (.cells #[.slice A n c] 24)).alloc (.cells #[.slice A' n' c'] 24)).heap.size := by go_size
  have r_a := r_a.below k0
  have r_b := r_b.below k0
  have p0 := k0.size
  generalize hW0 : ((w.alloc (.cells #[.slice A n c] 24)).alloc (.cells #[.slice A' n' c'] 24)) = w0 at *
  clear hW0
  refine (szMemory_c _ _ _ l (1048576 : Int) _ (by omega) (by omega) hn_a (by omega) (r_a.more (by omega)) hb_a).mono ?_
  rintro e w1 ⟨rfl, hb⟩
  have k1 : Below w.heap.size w w1 := ext_step k0 (by omega) hb
  have p1 := hb.size
  have bx0_0 := ccell hb _ _ _ bx0_0
  have bx1_0 := ccell hb _ _ _ bx1_0
  have bl0 := Nat.lt_of_lt_of_le bl0 hb.size
  have bl1 := Nat.lt_of_lt_of_le bl1 hb.size
  have r_a := r_a.below (hb.mono (by omega))
  have r_b := r_b.below (hb.mono (by omega))
  rw [hi_a.out]
  clear hb
  go_wp2_with fail
  refine (szMemory_c _ _ _ l' ((1048576 : Int) - n - totS l) _ (by omega) (by omega) hn_b (by omega) (r_b.more (by omega)) hb_b).mono ?_
  rintro e w2 ⟨rfl, hb⟩
  have k2 : Below w.heap.size w w2 := ext_step k1 (by omega) hb
  have p2 := hb.size
  have bx0_0 := ccell hb _ _ _ bx0_0
  have bx1_0 := ccell hb _ _ _ bx1_0
  have bl0 := Nat.lt_of_lt_of_le bl0 hb.size
  have bl1 := Nat.lt_of_lt_of_le bl1 hb.size
  have r_a := r_a.below (hb.mono (by omega))
  have r_b := r_b.below (hb.mono (by omega))
  rw [hi_b.out]
  clear hb
  have ht := totS_nonneg l
  have ht' := totS_nonneg l'
  have hs_a : n ≤ 1048576 := by omega
  have hs_b : n' ≤ 1048576 := by omega
  have hj := hjn
  go_upto_region 8 with fail
  go_cut [6] (fun s6 wx => ∃ (A_v : Option Addr) (c_v : Nat), s6 = .slice A_v j c_v ∧ wx.ownsRow w2.heap.size 3 1 (.slice A_v j c_v) j (lv.flatMap fun x : Int => [Value.int .i64 x]) ∧ Below w2.heap.size w2 wx)
  case first =>
    have kc : Below w2.heap.size w2 w2.drew := (Below.refl _ _).drew
    have hb := kc
    have pz := kc.size
    have oo_bx0_0 := bx0_0
    have bx0_0 := ccell hb _ _ _ bx0_0
    have oo_bx1_0 := bx1_0
    have bx1_0 := ccell hb _ _ _ bx1_0
    have r_a := r_a.below (hb.mono (by omega))
    have r_b := r_b.below (hb.mono (by omega))
    clear hb pz
    go_region_held3 (fun w' => w'.cell? ⟨w.heap.size, 0, none⟩ = some (.slice A n c) ∧ w'.cell? ⟨w.heap.size + 1, 0, none⟩ = some (.slice A' n' c')) (first | exact ⟨bx0_0, bx1_0⟩ | exact ⟨oo_bx0_0, oo_bx1_0⟩)
      (first
        | (go_at_call_of 17 (A); go_loud (refine (toMemory_c _ _ _ l _ hn_a hs_a (r_a.more (by have := kc.size; omega))).mono ?_; rintro e wt ⟨g_t, rfl, hg_t, b_t, hb⟩; have pz := kc.size; have bx0_0 := ccell hb _ _ _ bx0_0; have bx1_0 := ccell hb _ _ _ bx1_0; have r_a := r_a.below (hb.mono (by omega)); have r_b := r_b.below (hb.mono (by omega)); (try (have r_u := r_u.to hb)); have kc := ext_step kc kc.size hb; have r_t := b_t.reads (size := 1) (n := n) (by rw [flatMap_len _ 1 (fun _ => rfl), hn_a]); clear hb pz))
        | (go_at_call_of 17 (A'); go_loud (refine (toMemory_c _ _ _ l' _ hn_b hs_b (r_b.more (by have := kc.size; omega))).mono ?_; rintro e wt ⟨g_u, rfl, hg_u, b_u, hb⟩; have pz := kc.size; have bx0_0 := ccell hb _ _ _ bx0_0; have bx1_0 := ccell hb _ _ _ bx1_0; have r_a := r_a.below (hb.mono (by omega)); have r_b := r_b.below (hb.mono (by omega)); (try (have r_t := r_t.to hb)); have kc := ext_step kc kc.size hb; have r_u := b_u.reads (size := 1) (n := n') (by rw [flatMap_len _ 1 (fun _ => rfl), hn_b]); clear hb pz))
        | (go_at_call 28; refine (hspec _ _ _ _ _ hs_a hs_b r_t r_u).mono ?_; rintro e wt ⟨A_v, c_v, rfl, o_v, hb⟩; have pv := kc.size; have bx0_0 := ccell hb _ _ _ bx0_0; have bx1_0 := ccell hb _ _ _ bx1_0; have kc := ext_step kc kc.size hb))
    all_goals (go_wp2_with fail; go_meet; exact ⟨A_v, c_v, rfl, own_base o_v pv, kc⟩)
  case rest =>
    obtain ⟨A_v, c_v, rfl, o_v, hb⟩ := hcut
    generalize hW0 : wc = w3 at *
    clear hW0
    have k3 : Below w.heap.size w w3 := ext_step k2 (by omega) hb
    have p3 := hb.size
    have bx0_0 := ccell hb _ _ _ bx0_0
    have bx1_0 := ccell hb _ _ _ bx1_0
    have bl0 := Nat.lt_of_lt_of_le bl0 hb.size
    have bl1 := Nat.lt_of_lt_of_le bl1 hb.size
    have r_a := r_a.below (hb.mono (by omega))
    have r_b := r_b.below (hb.mono (by omega))
    clear hb
    have r_v := Reads.of_own o_v
    have u_v := fun k hk => (o_v.lt k hk).2
    go_wp2_with fail
    refine (toMemory_c _ _ _ l _ hn_a hs_a (r_a.more (by omega))).mono ?_
    rintro e w4 ⟨g_x, rfl, hg_x, b_x, hb⟩
    have k4 : Below w.heap.size w w4 := ext_step k3 (by omega) hb
    have p4 := hb.size
    have bx0_0 := ccell hb _ _ _ bx0_0
    have bx1_0 := ccell hb _ _ _ bx1_0
    have bl0 := Nat.lt_of_lt_of_le bl0 hb.size
    have bl1 := Nat.lt_of_lt_of_le bl1 hb.size
    have r_a := r_a.below (hb.mono (by omega))
    have r_b := r_b.below (hb.mono (by omega))
    have r_v := r_v.below (hb.mono (by omega))
    have o_v := own_ext o_v hb
    have r_x := b_x.reads (size := 1) (n := n) (by rw [flatMap_len _ 1 (fun _ => rfl), hn_a])
    have o_x := b_x.own (base := w3.heap.size) (size := 1) (n := n) hg_x (by rw [flatMap_len _ 1 (fun _ => rfl), hn_a]) (by unfold maxLen; omega) rfl
    have u_x := fun k hk => (o_x.lt k hk).2
    clear hb
    go_wp2_with fail
    have hb : Below w4.heap.size w4 (w4.alloc (.cells #[.slice (some ⟨g_x, 0, none⟩) n n] 27)) := by go_grown
    have bx2_0 : (w4.alloc (.cells #[.slice (some ⟨g_x, 0, none⟩) n n] 27)).cell? ⟨w4.heap.size, 0, none⟩ = some (.slice (some ⟨g_x, 0, none⟩) n n) := by simp [go_sem]
    have bl2 : w4.heap.size < (w4.alloc (.cells #[.slice (some ⟨g_x, 0, none⟩) n n] 27)).heap.size := by go_size
    generalize hW0 : (w4.alloc (.cells #[.slice (some ⟨g_x, 0, none⟩) n n] 27)) = w5 at *
    clear hW0
    have k5 : Below w.heap.size w w5 := ext_step k4 (by omega) hb
    have p5 := hb.size
    have bx0_0 := ccell hb _ _ _ bx0_0
    have bx1_0 := ccell hb _ _ _ bx1_0
    have bl0 := Nat.lt_of_lt_of_le bl0 hb.size
    have bl1 := Nat.lt_of_lt_of_le bl1 hb.size
    have r_a := r_a.below (hb.mono (by omega))
    have r_b := r_b.below (hb.mono (by omega))
    have r_v := r_v.below (hb.mono (by omega))
    have o_v := own_ext o_v hb
    have r_x := r_x.below (hb.mono (by omega))
    have o_x := own_ext o_x hb
    clear hb
    refine (toMemory_c _ _ _ l' _ hn_b hs_b (r_b.more (by omega))).mono ?_
    rintro e w6 ⟨g_y, rfl, hg_y, b_y, hb⟩
    have k6 : Below w.heap.size w w6 := ext_step k5 (by omega) hb
    have p6 := hb.size
    have bx0_0 := ccell hb _ _ _ bx0_0
    have bx1_0 := ccell hb _ _ _ bx1_0
    have bx2_0 := ccell hb _ _ _ bx2_0
    have bl0 := Nat.lt_of_lt_of_le bl0 hb.size
    have bl1 := Nat.lt_of_lt_of_le bl1 hb.size
    have bl2 := Nat.lt_of_lt_of_le bl2 hb.size
    have r_a := r_a.below (hb.mono (by omega))
    have r_b := r_b.below (hb.mono (by omega))
    have r_v := r_v.below (hb.mono (by omega))
    have o_v := own_ext o_v hb
    have r_x := r_x.below (hb.mono (by omega))
    have o_x := own_ext o_x hb
    have r_y := b_y.reads (size := 1) (n := n') (by rw [flatMap_len _ 1 (fun _ => rfl), hn_b])
    have o_y := b_y.own (base := w5.heap.size) (size := 1) (n := n') hg_y (by rw [flatMap_len _ 1 (fun _ => rfl), hn_b]) (by unfold maxLen; omega) rfl
    have u_y := fun k hk => (o_y.lt k hk).2
    clear hb
    go_wp2_with fail
    have hb : Below w6.heap.size w6 (w6.alloc (.cells #[.slice (some ⟨g_y, 0, none⟩) n' n'] 27)) := by go_grown
    have bx3_0 : (w6.alloc (.cells #[.slice (some ⟨g_y, 0, none⟩) n' n'] 27)).cell? ⟨w6.heap.size, 0, none⟩ = some (.slice (some ⟨g_y, 0, none⟩) n' n') := by simp [go_sem]
    have bl3 : w6.heap.size < (w6.alloc (.cells #[.slice (some ⟨g_y, 0, none⟩) n' n'] 27)).heap.size := by go_size
    generalize hW0 : (w6.alloc (.cells #[.slice (some ⟨g_y, 0, none⟩) n' n'] 27)) = w7 at *
    clear hW0
    have k7 : Below w.heap.size w w7 := ext_step k6 (by omega) hb
    have p7 := hb.size
    have bx0_0 := ccell hb _ _ _ bx0_0
    have bx1_0 := ccell hb _ _ _ bx1_0
    have bx2_0 := ccell hb _ _ _ bx2_0
    have bl0 := Nat.lt_of_lt_of_le bl0 hb.size
    have bl1 := Nat.lt_of_lt_of_le bl1 hb.size
    have bl2 := Nat.lt_of_lt_of_le bl2 hb.size
    have r_a := r_a.below (hb.mono (by omega))
    have r_b := r_b.below (hb.mono (by omega))
    have r_v := r_v.below (hb.mono (by omega))
    have o_v := own_ext o_v hb
    have r_x := r_x.below (hb.mono (by omega))
    have o_x := own_ext o_x hb
    have r_y := r_y.below (hb.mono (by omega))
    have o_y := own_ext o_y hb
    clear hb
    refine (himpl _ _ _ _ _ hs_a hs_b (r_x.more (by omega)) (r_y.more (by omega))).mono ?_
    rintro e w8 ⟨A_g, c_g, rfl, o_g, hb⟩
    have k8 : Below w.heap.size w w8 := ext_step k7 (by omega) hb
    have p8 := hb.size
    have bx0_0 := ccell hb _ _ _ bx0_0
    have bx1_0 := ccell hb _ _ _ bx1_0
    have bx2_0 := ccell hb _ _ _ bx2_0
    have bx3_0 := ccell hb _ _ _ bx3_0
    have bl0 := Nat.lt_of_lt_of_le bl0 hb.size
    have bl1 := Nat.lt_of_lt_of_le bl1 hb.size
    have bl2 := Nat.lt_of_lt_of_le bl2 hb.size
    have bl3 := Nat.lt_of_lt_of_le bl3 hb.size
    have r_a := r_a.below (hb.mono (by omega))
    have r_b := r_b.below (hb.mono (by omega))
    have r_v := r_v.below (hb.mono (by omega))
    have o_v := own_ext o_v hb
    have r_x := r_x.below (hb.mono (by omega))
    have o_x := own_ext o_x hb
    have r_y := r_y.below (hb.mono (by omega))
    have o_y := own_ext o_y hb
    have r_g := Reads.of_own o_g
    have u_g := fun k hk => (o_g.lt k hk).2
    clear hb
    go_wp2_with fail
    refine (eqIntS_c _ _ _ _ _ lv _ hn_v (by omega) (r_g.more (by omega)) (r_v.more (by omega))).mono ?_
    rintro e w9 ⟨rfl, hb⟩
    have k9 : Below w.heap.size w w9 := ext_step k8 (by omega) hb
    have p9 := hb.size
    have bx0_0 := ccell hb _ _ _ bx0_0
    have bx1_0 := ccell hb _ _ _ bx1_0
    have bx2_0 := ccell hb _ _ _ bx2_0
    have bx3_0 := ccell hb _ _ _ bx3_0
    have bl0 := Nat.lt_of_lt_of_le bl0 hb.size
    have bl1 := Nat.lt_of_lt_of_le bl1 hb.size
    have bl2 := Nat.lt_of_lt_of_le bl2 hb.size
    have bl3 := Nat.lt_of_lt_of_le bl3 hb.size
    have r_a := r_a.below (hb.mono (by omega))
    have r_b := r_b.below (hb.mono (by omega))
    have r_v := r_v.below (hb.mono (by omega))
    have o_v := own_ext o_v hb
    have r_x := r_x.below (hb.mono (by omega))
    have o_x := own_ext o_x hb
    have r_y := r_y.below (hb.mono (by omega))
    have o_y := own_ext o_y hb
    have r_g := r_g.below (hb.mono (by omega))
    have o_g := own_ext o_g hb
    clear hb
    go_wp2_with fail
    go_region_held3 (fun w' => w'.cell? ⟨w4.heap.size, 0, none⟩ = some (.slice (some ⟨g_x, 0, none⟩) n n) ∧ w'.cell? ⟨w.heap.size, 0, none⟩ = some (.slice A n c)) (exact ⟨bx2_0, bx0_0⟩)
      (first
        | (go_at_call 17; have hb : Below w9.heap.size w9 w9.drew := (Below.refl _ _).drew; generalize hW0 : w9.drew = w10 at *; clear hW0; have k10 : Below w.heap.size w w10 := ext_step k9 (by omega) hb; have p10 := hb.size; have bx0_0 := ccell hb _ _ _ bx0_0; have bx1_0 := ccell hb _ _ _ bx1_0; have bx2_0 := ccell hb _ _ _ bx2_0; have bx3_0 := ccell hb _ _ _ bx3_0; have bl0 := Nat.lt_of_lt_of_le bl0 hb.size; have bl1 := Nat.lt_of_lt_of_le bl1 hb.size; have bl2 := Nat.lt_of_lt_of_le bl2 hb.size; have bl3 := Nat.lt_of_lt_of_le bl3 hb.size; have r_a := r_a.below (hb.mono (by omega)); have r_b := r_b.below (hb.mono (by omega)); have r_v := r_v.below (hb.mono (by omega)); have o_v := own_ext o_v hb; have r_x := r_x.below (hb.mono (by omega)); have o_x := own_ext o_x hb; have r_y := r_y.below (hb.mono (by omega)); have o_y := own_ext o_y hb; have r_g := r_g.below (hb.mono (by omega)); have o_g := own_ext o_g hb; clear hb; refine (toMemory_c _ _ _ l _ hn_a hs_a (r_a.more (by omega))).mono ?_; rintro e w11 ⟨g_z, rfl, hg_z, b_z, hb⟩; have k11 : Below w.heap.size w w11 := ext_step k10 (by omega) hb; have p11 := hb.size; have bx0_0 := ccell hb _ _ _ bx0_0; have bx1_0 := ccell hb _ _ _ bx1_0; have bx2_0 := ccell hb _ _ _ bx2_0; have bx3_0 := ccell hb _ _ _ bx3_0; have bl0 := Nat.lt_of_lt_of_le bl0 hb.size; have bl1 := Nat.lt_of_lt_of_le bl1 hb.size; have bl2 := Nat.lt_of_lt_of_le bl2 hb.size; have bl3 := Nat.lt_of_lt_of_le bl3 hb.size; have r_a := r_a.below (hb.mono (by omega)); have r_b := r_b.below (hb.mono (by omega)); have r_v := r_v.below (hb.mono (by omega)); have o_v := own_ext o_v hb; have r_x := r_x.below (hb.mono (by omega)); have o_x := own_ext o_x hb; have r_y := r_y.below (hb.mono (by omega)); have o_y := own_ext o_y hb; have r_g := r_g.below (hb.mono (by omega)); have o_g := own_ext o_g hb; have r_z := b_z.reads (size := 1) (n := n) (by rw [flatMap_len _ 1 (fun _ => rfl), hn_a]); have o_z := b_z.own (base := w10.heap.size) (size := 1) (n := n) hg_z (by rw [flatMap_len _ 1 (fun _ => rfl), hn_a]) (by unfold maxLen; omega) rfl; have u_z := fun k hk => (o_z.lt k hk).2; clear hb)
        | (go_at_call 19; refine (eqMemory_c _ _ _ _ _ l _ hn_a (by omega) (r_x.more (by omega)) (r_z.more (by omega))).mono ?_; rintro e w12 ⟨rfl, hb⟩; have k12 : Below w.heap.size w w12 := ext_step k11 (by omega) hb; have p12 := hb.size; have bx0_0 := ccell hb _ _ _ bx0_0; have bx1_0 := ccell hb _ _ _ bx1_0; have bx2_0 := ccell hb _ _ _ bx2_0; have bx3_0 := ccell hb _ _ _ bx3_0; have bl0 := Nat.lt_of_lt_of_le bl0 hb.size; have bl1 := Nat.lt_of_lt_of_le bl1 hb.size; have bl2 := Nat.lt_of_lt_of_le bl2 hb.size; have bl3 := Nat.lt_of_lt_of_le bl3 hb.size; have r_a := r_a.below (hb.mono (by omega)); have r_b := r_b.below (hb.mono (by omega)); have r_v := r_v.below (hb.mono (by omega)); have o_v := own_ext o_v hb; have r_x := r_x.below (hb.mono (by omega)); have o_x := own_ext o_x hb; have r_y := r_y.below (hb.mono (by omega)); have o_y := own_ext o_y hb; have r_g := r_g.below (hb.mono (by omega)); have o_g := own_ext o_g hb; have r_z := r_z.below (hb.mono (by omega)); have o_z := own_ext o_z hb; clear hb))
    go_wp2_with fail
    go_region_held3 (fun w' => w'.cell? ⟨w6.heap.size, 0, none⟩ = some (.slice (some ⟨g_y, 0, none⟩) n' n') ∧ w'.cell? ⟨w.heap.size + 1, 0, none⟩ = some (.slice A' n' c')) (exact ⟨bx3_0, bx1_0⟩)
      (first
        | (go_at_call 17; have hb : Below w12.heap.size w12 w12.drew := (Below.refl _ _).drew; generalize hW0 : w12.drew = w13 at *; clear hW0; have k13 : Below w.heap.size w w13 := ext_step k12 (by omega) hb; have p13 := hb.size; have bx0_0 := ccell hb _ _ _ bx0_0; have bx1_0 := ccell hb _ _ _ bx1_0; have bx2_0 := ccell hb _ _ _ bx2_0; have bx3_0 := ccell hb _ _ _ bx3_0; have bl0 := Nat.lt_of_lt_of_le bl0 hb.size; have bl1 := Nat.lt_of_lt_of_le bl1 hb.size; have bl2 := Nat.lt_of_lt_of_le bl2 hb.size; have bl3 := Nat.lt_of_lt_of_le bl3 hb.size; have r_a := r_a.below (hb.mono (by omega)); have r_b := r_b.below (hb.mono (by omega)); have r_v := r_v.below (hb.mono (by omega)); have o_v := own_ext o_v hb; have r_x := r_x.below (hb.mono (by omega)); have o_x := own_ext o_x hb; have r_y := r_y.below (hb.mono (by omega)); have o_y := own_ext o_y hb; have r_g := r_g.below (hb.mono (by omega)); have o_g := own_ext o_g hb; clear hb; refine (toMemory_c _ _ _ l' _ hn_b hs_b (r_b.more (by omega))).mono ?_; rintro e w14 ⟨g_z2, rfl, hg_z2, b_z2, hb⟩; have k14 : Below w.heap.size w w14 := ext_step k13 (by omega) hb; have p14 := hb.size; have bx0_0 := ccell hb _ _ _ bx0_0; have bx1_0 := ccell hb _ _ _ bx1_0; have bx2_0 := ccell hb _ _ _ bx2_0; have bx3_0 := ccell hb _ _ _ bx3_0; have bl0 := Nat.lt_of_lt_of_le bl0 hb.size; have bl1 := Nat.lt_of_lt_of_le bl1 hb.size; have bl2 := Nat.lt_of_lt_of_le bl2 hb.size; have bl3 := Nat.lt_of_lt_of_le bl3 hb.size; have r_a := r_a.below (hb.mono (by omega)); have r_b := r_b.below (hb.mono (by omega)); have r_v := r_v.below (hb.mono (by omega)); have o_v := own_ext o_v hb; have r_x := r_x.below (hb.mono (by omega)); have o_x := own_ext o_x hb; have r_y := r_y.below (hb.mono (by omega)); have o_y := own_ext o_y hb; have r_g := r_g.below (hb.mono (by omega)); have o_g := own_ext o_g hb; have r_z2 := b_z2.reads (size := 1) (n := n') (by rw [flatMap_len _ 1 (fun _ => rfl), hn_b]); have o_z2 := b_z2.own (base := w13.heap.size) (size := 1) (n := n') hg_z2 (by rw [flatMap_len _ 1 (fun _ => rfl), hn_b]) (by unfold maxLen; omega) rfl; have u_z2 := fun k hk => (o_z2.lt k hk).2; clear hb)
        | (go_at_call 19; refine (eqMemory_c _ _ _ _ _ l' _ hn_b (by omega) (r_y.more (by omega)) (r_z2.more (by omega))).mono ?_; rintro e w15 ⟨rfl, hb⟩; have k15 : Below w.heap.size w w15 := ext_step k14 (by omega) hb; have p15 := hb.size; have bx0_0 := ccell hb _ _ _ bx0_0; have bx1_0 := ccell hb _ _ _ bx1_0; have bx2_0 := ccell hb _ _ _ bx2_0; have bx3_0 := ccell hb _ _ _ bx3_0; have bl0 := Nat.lt_of_lt_of_le bl0 hb.size; have bl1 := Nat.lt_of_lt_of_le bl1 hb.size; have bl2 := Nat.lt_of_lt_of_le bl2 hb.size; have bl3 := Nat.lt_of_lt_of_le bl3 hb.size; have r_a := r_a.below (hb.mono (by omega)); have r_b := r_b.below (hb.mono (by omega)); have r_v := r_v.below (hb.mono (by omega)); have o_v := own_ext o_v hb; have r_x := r_x.below (hb.mono (by omega)); have o_x := own_ext o_x hb; have r_y := r_y.below (hb.mono (by omega)); have o_y := own_ext o_y hb; have r_g := r_g.below (hb.mono (by omega)); have o_g := own_ext o_g hb; have r_z2 := r_z2.below (hb.mono (by omega)); have o_z2 := own_ext o_z2 hb; clear hb))
    go_wp2_with fail
    refine (markMemory_c _ _ _ _ _ _ _ o_x (by omega) (by omega) (by omega)).mono ?_
    rintro e w16 ⟨rfl, om, hg⟩
    have k16 : Below w.heap.size w w16 := below_app k15 (own_base o_x (by omega)) hg (by omega)
    have p16 := hg.size
    have bx0_0 := cell_off hg bx0_0 (fun g h1 => by have := (o_x.lt g h1).1; have := u_x g h1; omega)
    have bx1_0 := cell_off hg bx1_0 (fun g h1 => by have := (o_x.lt g h1).1; have := u_x g h1; omega)
    have bx2_0 := cell_off hg bx2_0 (fun g h1 => by have := (o_x.lt g h1).1; have := u_x g h1; omega)
    have bx3_0 := cell_off hg bx3_0 (fun g h1 => by have := (o_x.lt g h1).1; have := u_x g h1; omega)
    have bl0 := Nat.lt_of_lt_of_le bl0 hg.size
    have bl1 := Nat.lt_of_lt_of_le bl1 hg.size
    have bl2 := Nat.lt_of_lt_of_le bl2 hg.size
    have bl3 := Nat.lt_of_lt_of_le bl3 hg.size
    have r_a := r_a.grown hg (by omega) (fun g hg => Nat.le_trans (by omega) (o_x.lt g hg).1)
    have r_b := r_b.grown hg (by omega) (fun g hg => Nat.le_trans (by omega) (o_x.lt g hg).1)
    have r_v := r_v.grown hg (by omega) (fun g hg => Nat.le_trans (by omega) (o_x.lt g hg).1)
    have o_v := own_far o_v hg (fun g h1 h2 => by have := u_v g h1; have := (o_x.lt g h2).1; omega)
    have o_y := own_far o_y hg (fun g h1 h2 => by have := (o_y.lt g h1).1; have := u_x g h2; omega)
    have r_y := (Reads.of_own o_y)
    have o_g := own_far o_g hg (fun g h1 h2 => by have := (o_g.lt g h1).1; have := u_x g h2; omega)
    have r_g := (Reads.of_own o_g)
    have o_x := om
    have r_x := Reads.of_own o_x
    clear hg om
    go_wp2_with fail
    refine (markMemory_c _ _ _ _ _ _ _ o_y (by omega) (by omega) (by omega)).mono ?_
    rintro e w17 ⟨rfl, om, hg⟩
    have k17 : Below w.heap.size w w17 := below_app k16 (own_base o_y (by omega)) hg (by omega)
    have p17 := hg.size
    have bx0_0 := cell_off hg bx0_0 (fun g h1 => by have := (o_y.lt g h1).1; have := u_y g h1; omega)
    have bx1_0 := cell_off hg bx1_0 (fun g h1 => by have := (o_y.lt g h1).1; have := u_y g h1; omega)
    have bx2_0 := cell_off hg bx2_0 (fun g h1 => by have := (o_y.lt g h1).1; have := u_y g h1; omega)
    have bx3_0 := cell_off hg bx3_0 (fun g h1 => by have := (o_y.lt g h1).1; have := u_y g h1; omega)
    have bl0 := Nat.lt_of_lt_of_le bl0 hg.size
    have bl1 := Nat.lt_of_lt_of_le bl1 hg.size
    have bl2 := Nat.lt_of_lt_of_le bl2 hg.size
    have bl3 := Nat.lt_of_lt_of_le bl3 hg.size
    have r_a := r_a.grown hg (by omega) (fun g hg => Nat.le_trans (by omega) (o_y.lt g hg).1)
    have r_b := r_b.grown hg (by omega) (fun g hg => Nat.le_trans (by omega) (o_y.lt g hg).1)
    have r_v := r_v.grown hg (by omega) (fun g hg => Nat.le_trans (by omega) (o_y.lt g hg).1)
    have o_v := own_far o_v hg (fun g h1 h2 => by have := u_v g h1; have := (o_y.lt g h2).1; omega)
    have o_g := own_far o_g hg (fun g h1 h2 => by have := (o_g.lt g h1).1; have := u_y g h2; omega)
    have r_g := (Reads.of_own o_g)
    have o_y := om
    have r_y := Reads.of_own o_y
    clear hg om
    go_wp2_with fail
    refine (eqIntS_c _ _ _ _ _ lv _ hn_v (by omega) (r_g.more (by omega)) (r_v.more (by omega))).mono ?_
    rintro e w18 ⟨rfl, hb⟩
    have k18 : Below w.heap.size w w18 := ext_step k17 (by omega) hb
    have p18 := hb.size
    have bx0_0 := ccell hb _ _ _ bx0_0
    have bx1_0 := ccell hb _ _ _ bx1_0
    have bx2_0 := ccell hb _ _ _ bx2_0
    have bx3_0 := ccell hb _ _ _ bx3_0
    have bl0 := Nat.lt_of_lt_of_le bl0 hb.size
    have bl1 := Nat.lt_of_lt_of_le bl1 hb.size
    have bl2 := Nat.lt_of_lt_of_le bl2 hb.size
    have bl3 := Nat.lt_of_lt_of_le bl3 hb.size
    have r_a := r_a.below (hb.mono (by omega))
    have r_b := r_b.below (hb.mono (by omega))
    have r_v := r_v.below (hb.mono (by omega))
    have o_v := own_ext o_v hb
    have r_g := r_g.below (hb.mono (by omega))
    have o_g := own_ext o_g hb
    clear hb
    go_wp2_with fail
    refine (markIntS_c _ _ _ _ _ _ _ o_g (by omega) (by omega) (by omega)).mono ?_
    rintro e w19 ⟨rfl, om, hg⟩
    have k19 : Below w.heap.size w w19 := below_app k18 (own_base o_g (by omega)) hg (by omega)
    have p19 := hg.size
    have bx0_0 := cell_off hg bx0_0 (fun g h1 => by have := (o_g.lt g h1).1; have := u_g g h1; omega)
    have bx1_0 := cell_off hg bx1_0 (fun g h1 => by have := (o_g.lt g h1).1; have := u_g g h1; omega)
    have bx2_0 := cell_off hg bx2_0 (fun g h1 => by have := (o_g.lt g h1).1; have := u_g g h1; omega)
    have bx3_0 := cell_off hg bx3_0 (fun g h1 => by have := (o_g.lt g h1).1; have := u_g g h1; omega)
    have bl0 := Nat.lt_of_lt_of_le bl0 hg.size
    have bl1 := Nat.lt_of_lt_of_le bl1 hg.size
    have bl2 := Nat.lt_of_lt_of_le bl2 hg.size
    have bl3 := Nat.lt_of_lt_of_le bl3 hg.size
    have r_a := r_a.grown hg (by omega) (fun g hg => Nat.le_trans (by omega) (o_g.lt g hg).1)
    have r_b := r_b.grown hg (by omega) (fun g hg => Nat.le_trans (by omega) (o_g.lt g hg).1)
    have r_v := r_v.grown hg (by omega) (fun g hg => Nat.le_trans (by omega) (o_g.lt g hg).1)
    have o_v := own_far o_v hg (fun g h1 h2 => by have := u_v g h1; have := (o_g.lt g h2).1; omega)
    have o_g := om
    have r_g := Reads.of_own o_g
    clear hg om
    go_wp2_with fail
    refine (heldIntS_c _ _ _ _ _ (r_g.more (by omega)) (by omega) (by omega) (by omega)).mono ?_
    rintro e w20 ⟨rfl, hb⟩
    have k20 : Below w.heap.size w w20 := ext_step k19 (by omega) hb
    have p20 := hb.size
    have bx0_0 := ccell hb _ _ _ bx0_0
    have bx1_0 := ccell hb _ _ _ bx1_0
    have bx2_0 := ccell hb _ _ _ bx2_0
    have bx3_0 := ccell hb _ _ _ bx3_0
    have bl0 := Nat.lt_of_lt_of_le bl0 hb.size
    have bl1 := Nat.lt_of_lt_of_le bl1 hb.size
    have bl2 := Nat.lt_of_lt_of_le bl2 hb.size
    have bl3 := Nat.lt_of_lt_of_le bl3 hb.size
    have r_a := r_a.below (hb.mono (by omega))
    have r_b := r_b.below (hb.mono (by omega))
    have r_v := r_v.below (hb.mono (by omega))
    have o_v := own_ext o_v hb
    have r_g := r_g.below (hb.mono (by omega))
    have o_g := own_ext o_g hb
    clear hb
    go_upto_region 31 with fail
    go_cut [13] (fun s13 wx => ∃ (A_h : Option Addr) (c_h : Nat), s13 = .slice A_h j c_h ∧ wx.ownsRow w20.heap.size 3 1 (.slice A_h j c_h) j (lv.flatMap fun x : Int => [Value.int .i64 x]) ∧ Below w20.heap.size w20 wx)
    case first =>
      have kc : Below w20.heap.size w20 w20.drew := (Below.refl _ _).drew
      have hb := kc
      have pz := kc.size
      have oo_bx0_0 := bx0_0
      have bx0_0 := ccell hb _ _ _ bx0_0
      have oo_bx1_0 := bx1_0
      have bx1_0 := ccell hb _ _ _ bx1_0
      have oo_bx2_0 := bx2_0
      have bx2_0 := ccell hb _ _ _ bx2_0
      have oo_bx3_0 := bx3_0
      have bx3_0 := ccell hb _ _ _ bx3_0
      have r_a := r_a.below (hb.mono (by omega))
      have r_b := r_b.below (hb.mono (by omega))
      have r_v := r_v.below (hb.mono (by omega))
      have r_g := r_g.below (hb.mono (by omega))
      clear hb pz
      go_region_held3 (fun w' => w'.cell? ⟨w.heap.size, 0, none⟩ = some (.slice A n c) ∧ w'.cell? ⟨w.heap.size + 1, 0, none⟩ = some (.slice A' n' c')) (first | exact ⟨bx0_0, bx1_0⟩ | exact ⟨oo_bx0_0, oo_bx1_0⟩)
        (first
          | (go_at_call_of 17 (A); go_loud (refine (toMemory_c _ _ _ l _ hn_a hs_a (r_a.more (by have := kc.size; omega))).mono ?_; rintro e wt ⟨g_t, rfl, hg_t, b_t, hb⟩; have pz := kc.size; have bx0_0 := ccell hb _ _ _ bx0_0; have bx1_0 := ccell hb _ _ _ bx1_0; have bx2_0 := ccell hb _ _ _ bx2_0; have bx3_0 := ccell hb _ _ _ bx3_0; have r_a := r_a.below (hb.mono (by omega)); have r_b := r_b.below (hb.mono (by omega)); have r_v := r_v.below (hb.mono (by omega)); have r_g := r_g.below (hb.mono (by omega)); (try (have r_u := r_u.to hb)); have kc := ext_step kc kc.size hb; have r_t := b_t.reads (size := 1) (n := n) (by rw [flatMap_len _ 1 (fun _ => rfl), hn_a]); clear hb pz))
          | (go_at_call_of 17 (A'); go_loud (refine (toMemory_c _ _ _ l' _ hn_b hs_b (r_b.more (by have := kc.size; omega))).mono ?_; rintro e wt ⟨g_u, rfl, hg_u, b_u, hb⟩; have pz := kc.size; have bx0_0 := ccell hb _ _ _ bx0_0; have bx1_0 := ccell hb _ _ _ bx1_0; have bx2_0 := ccell hb _ _ _ bx2_0; have bx3_0 := ccell hb _ _ _ bx3_0; have r_a := r_a.below (hb.mono (by omega)); have r_b := r_b.below (hb.mono (by omega)); have r_v := r_v.below (hb.mono (by omega)); have r_g := r_g.below (hb.mono (by omega)); (try (have r_t := r_t.to hb)); have kc := ext_step kc kc.size hb; have r_u := b_u.reads (size := 1) (n := n') (by rw [flatMap_len _ 1 (fun _ => rfl), hn_b]); clear hb pz))
          | (go_at_call 29; refine (himpl _ _ _ _ _ hs_a hs_b r_t r_u).mono ?_; rintro e wt ⟨A_h, c_h, rfl, o_h, hb⟩; have pv := kc.size; have bx0_0 := ccell hb _ _ _ bx0_0; have bx1_0 := ccell hb _ _ _ bx1_0; have bx2_0 := ccell hb _ _ _ bx2_0; have bx3_0 := ccell hb _ _ _ bx3_0; have kc := ext_step kc kc.size hb))
      all_goals (go_wp2_with fail; go_meet; exact ⟨A_h, c_h, rfl, own_base o_h pv, kc⟩)
    case rest =>
      obtain ⟨A_h, c_h, rfl, o_h, hb⟩ := hcut
      generalize hW0 : wc = w21 at *
      clear hW0
      have k21 : Below w.heap.size w w21 := ext_step k20 (by omega) hb
      have p21 := hb.size
      have bx0_0 := ccell hb _ _ _ bx0_0
      have bx1_0 := ccell hb _ _ _ bx1_0
      have bx2_0 := ccell hb _ _ _ bx2_0
      have bx3_0 := ccell hb _ _ _ bx3_0
      have bl0 := Nat.lt_of_lt_of_le bl0 hb.size
      have bl1 := Nat.lt_of_lt_of_le bl1 hb.size
      have bl2 := Nat.lt_of_lt_of_le bl2 hb.size
      have bl3 := Nat.lt_of_lt_of_le bl3 hb.size
      have r_a := r_a.below (hb.mono (by omega))
      have r_b := r_b.below (hb.mono (by omega))
      have r_v := r_v.below (hb.mono (by omega))
      have o_v := own_ext o_v hb
      have r_g := r_g.below (hb.mono (by omega))
      have o_g := own_ext o_g hb
      clear hb
      have r_h := Reads.of_own o_h
      have u_h := fun k hk => (o_h.lt k hk).2
      go_wp2_with fail
      refine (eqIntS_c _ _ _ _ _ lv _ hn_v (by omega) (r_h.more (by omega)) (r_v.more (by omega))).mono ?_
      rintro e w22 ⟨rfl, hb⟩
      have k22 : Below w.heap.size w w22 := ext_step k21 (by omega) hb
      have p22 := hb.size
      have bx0_0 := ccell hb _ _ _ bx0_0
      have bx1_0 := ccell hb _ _ _ bx1_0
      have bx2_0 := ccell hb _ _ _ bx2_0
      have bx3_0 := ccell hb _ _ _ bx3_0
      have bl0 := Nat.lt_of_lt_of_le bl0 hb.size
      have bl1 := Nat.lt_of_lt_of_le bl1 hb.size
      have bl2 := Nat.lt_of_lt_of_le bl2 hb.size
      have bl3 := Nat.lt_of_lt_of_le bl3 hb.size
      have r_a := r_a.below (hb.mono (by omega))
      have r_b := r_b.below (hb.mono (by omega))
      have r_v := r_v.below (hb.mono (by omega))
      have o_v := own_ext o_v hb
      have r_g := r_g.below (hb.mono (by omega))
      have o_g := own_ext o_g hb
      have r_h := r_h.below (hb.mono (by omega))
      have o_h := own_ext o_h hb
      clear hb
      go_wp2_with fail
      refine (heldIntS_c _ _ _ _ _ (r_g.more (by omega)) (by omega) (by omega) (by omega)).mono ?_
      rintro e w23 ⟨rfl, hb⟩
      have k23 : Below w.heap.size w w23 := ext_step k22 (by omega) hb
      have p23 := hb.size
      have bx0_0 := ccell hb _ _ _ bx0_0
      have bx1_0 := ccell hb _ _ _ bx1_0
      have bx2_0 := ccell hb _ _ _ bx2_0
      have bx3_0 := ccell hb _ _ _ bx3_0
      have bl0 := Nat.lt_of_lt_of_le bl0 hb.size
      have bl1 := Nat.lt_of_lt_of_le bl1 hb.size
      have bl2 := Nat.lt_of_lt_of_le bl2 hb.size
      have bl3 := Nat.lt_of_lt_of_le bl3 hb.size
      have r_a := r_a.below (hb.mono (by omega))
      have r_b := r_b.below (hb.mono (by omega))
      have r_g := r_g.below (hb.mono (by omega))
      have o_g := own_ext o_g hb
      clear hb
      go_wp2
      go_ret
      exact ⟨rfl, k23⟩
end Go.Proofs.Yteajedcoidljhaa
