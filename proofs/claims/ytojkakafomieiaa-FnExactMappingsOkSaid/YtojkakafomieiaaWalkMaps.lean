/- The walks of laws.FnExactMappingsOk and laws.FnExactTranslate. -/
import Derived.Test.YtojkakafomieiaaConvMap
import Derived.Test.YtojkakafomieiaaTrans
namespace Go.Proofs.Ytojkakafomieiaa
set_option linter.unusedSimpArgs false
set_option linter.unusedVariables false
open Go.RowKit Go.ChangeShapes Go.WideShapes
set_option maxHeartbeats 1000000 in
theorem fnExactMappingsOk_walk (A : Option Addr) (n c : Nat) (l : List Mapping) (w : World) (hs : SlMapping w A n c l) :
    Calls Try.prog 9 #[.slice A n c] w fun e w' => e = .returned (.bool true) ∧ Below w.heap.size w w' := by
  obtain ⟨⟨hn_a, hnc_a, hc_a, r_a⟩, hb_a⟩ := hs
  by_cases hz_a : (1048576 : Int) - n < 0
  · skip
    have hi_a := Lib.hid (szI_neg hz_a)
    go_enter Try.func9, Try.ntmps9
    go_wp2_with fail
    have k0 : Below w.heap.size w w := by go_grown
    have r_a := r_a.below k0
    have p0 := k0.size
    refine (szMappingS_c2 _ _ _ (1048576 : Int) _ (by omega) (by omega) (by omega)).mono ?_
    rintro e w_ ⟨rfl, rfl⟩
    rw [hi_a.out]
    go_wp2
    go_ret
    exact ⟨rfl, Below.refl _ _⟩
  have hi_a := Lib.hid (szI_nn hz_a)
  go_enter Try.func9, Try.ntmps9
  go_wp2_with fail
  have k0 : Below w.heap.size w w := by go_grown
  have r_a := r_a.below k0
  have p0 := k0.size
  refine (szMappingS_c2 _ _ _ (1048576 : Int) _ (by omega) (by omega) (by omega)).mono ?_
  rintro e w_ ⟨rfl, rfl⟩
  rw [hi_a.out]
  have hs_a : n ≤ 1048576 := by omega
  go_wp2_with fail
  refine (toMappingS_c _ _ _ l _ hn_a hs_a (r_a.more (by omega))).mono ?_
  rintro e w1 ⟨g_x, rfl, hg_x, b_x, hb⟩
  have k1 : Below w.heap.size w w1 := ext_step k0 (by omega) hb
  have p1 := hb.size
  have r_a := r_a.below (hb.mono (by omega))
  have r_x := b_x.reads (size := 4) (n := n) (by rw [flatMap_len _ 4 (fun _ => rfl), hn_a])
  have o_x := b_x.own (base := w.heap.size) (size := 4) (n := n) hg_x (by rw [flatMap_len _ 4 (fun _ => rfl), hn_a]) (by unfold maxLen; omega) rfl
  have u_x := fun k hk => (o_x.lt k hk).2
  clear hb
  go_wp2_with fail
  refine (specMappingsOk_c _ _ _ l _ hn_a (by omega) (r_x.more (by omega)) ).mono ?_
  rintro e w2 ⟨rfl, hb⟩
  have k2 : Below w.heap.size w w2 := ext_step k1 (by omega) hb
  have p2 := hb.size
  have r_a := r_a.below (hb.mono (by omega))
  have r_x := r_x.below (hb.mono (by omega))
  have o_x := own_ext o_x hb
  clear hb
  go_wp2_with fail
  refine (toMappingS_c _ _ _ l _ hn_a hs_a (r_a.more (by omega))).mono ?_
  rintro e w3 ⟨g_y, rfl, hg_y, b_y, hb⟩
  have k3 : Below w.heap.size w w3 := ext_step k2 (by omega) hb
  have p3 := hb.size
  have r_a := r_a.below (hb.mono (by omega))
  have r_y := b_y.reads (size := 4) (n := n) (by rw [flatMap_len _ 4 (fun _ => rfl), hn_a])
  have o_y := b_y.own (base := w2.heap.size) (size := 4) (n := n) hg_y (by rw [flatMap_len _ 4 (fun _ => rfl), hn_a]) (by unfold maxLen; omega) rfl
  have u_y := fun k hk => (o_y.lt k hk).2
  clear hb
  go_wp2_with fail
  refine (implMappingsOk_c _ _ _ l _ hn_a (by omega) (r_y.more (by omega)) ).mono ?_
  rintro e w4 ⟨rfl, hb⟩
  have k4 : Below w.heap.size w w4 := ext_step k3 (by omega) hb
  have p4 := hb.size
  have r_a := r_a.below (hb.mono (by omega))
  have r_y := r_y.below (hb.mono (by omega))
  have o_y := own_ext o_y hb
  clear hb
  go_wp2_with fail
  refine (toMappingS_c _ _ _ l _ hn_a hs_a (r_a.more (by omega))).mono ?_
  rintro e w5 ⟨g_z, rfl, hg_z, b_z, hb⟩
  have k5 : Below w.heap.size w w5 := ext_step k4 (by omega) hb
  have p5 := hb.size
  have r_a := r_a.below (hb.mono (by omega))
  have r_y := r_y.below (hb.mono (by omega))
  have o_y := own_ext o_y hb
  have r_z := b_z.reads (size := 4) (n := n) (by rw [flatMap_len _ 4 (fun _ => rfl), hn_a])
  have o_z := b_z.own (base := w4.heap.size) (size := 4) (n := n) hg_z (by rw [flatMap_len _ 4 (fun _ => rfl), hn_a]) (by unfold maxLen; omega) rfl
  have u_z := fun k hk => (o_z.lt k hk).2
  clear hb
  go_wp2_with fail
  refine (eqMappingS_c _ _ _ _ _ l _ hn_a (by omega) (r_y.more (by omega)) (r_z.more (by omega))).mono ?_
  rintro e w6 ⟨rfl, hb⟩
  have k6 : Below w.heap.size w w6 := ext_step k5 (by omega) hb
  have p6 := hb.size
  have r_a := r_a.below (hb.mono (by omega))
  have r_y := r_y.below (hb.mono (by omega))
  have o_y := own_ext o_y hb
  have r_z := r_z.below (hb.mono (by omega))
  have o_z := own_ext o_z hb
  clear hb
  go_wp2
  go_ret
  exact ⟨rfl, k6⟩
set_option maxHeartbeats 1000000 in
theorem fnExactTranslate_walk (A : Option Addr) (n c : Nat) (l : List Mapping) (d a : Int) (wr : Bool) (w : World) (hs : SlMapping w A n c l) (hd : I64 d) (ha : I64 a) :
    Calls Try.prog 10 #[.slice A n c, .int .i64 d, .int .i64 a, .bool wr] w fun e w' => e = .returned (.bool true) ∧ Below w.heap.size w w' := by
  obtain ⟨⟨hn_a, hnc_a, hc_a, r_a⟩, hb_a⟩ := hs
  by_cases hz_a : (1048576 : Int) - n < 0
  · skip
    have hi_a := Lib.hid (szI_neg hz_a)
    go_enter Try.func10, Try.ntmps10
    go_wp2_with fail
    have k0 : Below w.heap.size w w := by go_grown
    have r_a := r_a.below k0
    have p0 := k0.size
    refine (szMappingS_c2 _ _ _ (1048576 : Int) _ (by omega) (by omega) (by omega)).mono ?_
    rintro e w_ ⟨rfl, rfl⟩
    rw [hi_a.out]
    go_wp2
    go_ret
    exact ⟨rfl, Below.refl _ _⟩
  have hi_a := Lib.hid (szI_nn hz_a)
  go_enter Try.func10, Try.ntmps10
  go_wp2_with fail
  have k0 : Below w.heap.size w w := by go_grown
  have r_a := r_a.below k0
  have p0 := k0.size
  refine (szMappingS_c2 _ _ _ (1048576 : Int) _ (by omega) (by omega) (by omega)).mono ?_
  rintro e w_ ⟨rfl, rfl⟩
  rw [hi_a.out]
  have hs_a : n ≤ 1048576 := by omega
  go_wp2_with fail
  refine (toMappingS_c _ _ _ l _ hn_a hs_a (r_a.more (by omega))).mono ?_
  rintro e w1 ⟨g_x, rfl, hg_x, b_x, hb⟩
  have k1 : Below w.heap.size w w1 := ext_step k0 (by omega) hb
  have p1 := hb.size
  have r_a := r_a.below (hb.mono (by omega))
  have r_x := b_x.reads (size := 4) (n := n) (by rw [flatMap_len _ 4 (fun _ => rfl), hn_a])
  have o_x := b_x.own (base := w.heap.size) (size := 4) (n := n) hg_x (by rw [flatMap_len _ 4 (fun _ => rfl), hn_a]) (by unfold maxLen; omega) rfl
  have u_x := fun k hk => (o_x.lt k hk).2
  clear hb
  go_wp2_with fail
  refine (specTranslate_c _ _ _ l _ hn_a (by omega) (r_x.more (by omega)) d a wr ha).mono ?_
  rintro e w2 ⟨rfl, hb⟩
  have k2 : Below w.heap.size w w2 := ext_step k1 (by omega) hb
  have p2 := hb.size
  have r_a := r_a.below (hb.mono (by omega))
  have r_x := r_x.below (hb.mono (by omega))
  have o_x := own_ext o_x hb
  clear hb
  go_wp2_with fail
  refine (toMappingS_c _ _ _ l _ hn_a hs_a (r_a.more (by omega))).mono ?_
  rintro e w3 ⟨g_y, rfl, hg_y, b_y, hb⟩
  have k3 : Below w.heap.size w w3 := ext_step k2 (by omega) hb
  have p3 := hb.size
  have r_a := r_a.below (hb.mono (by omega))
  have r_y := b_y.reads (size := 4) (n := n) (by rw [flatMap_len _ 4 (fun _ => rfl), hn_a])
  have o_y := b_y.own (base := w2.heap.size) (size := 4) (n := n) hg_y (by rw [flatMap_len _ 4 (fun _ => rfl), hn_a]) (by unfold maxLen; omega) rfl
  have u_y := fun k hk => (o_y.lt k hk).2
  clear hb
  go_wp2_with fail
  refine (implTranslate_c _ _ _ l _ hn_a (by omega) (r_y.more (by omega)) d a wr ha).mono ?_
  rintro e w4 ⟨rfl, hb⟩
  have k4 : Below w.heap.size w w4 := ext_step k3 (by omega) hb
  have p4 := hb.size
  have r_a := r_a.below (hb.mono (by omega))
  have r_y := r_y.below (hb.mono (by omega))
  have o_y := own_ext o_y hb
  clear hb
  go_wp2_with fail
  refine (toMappingS_c _ _ _ l _ hn_a hs_a (r_a.more (by omega))).mono ?_
  rintro e w5 ⟨g_z, rfl, hg_z, b_z, hb⟩
  have k5 : Below w.heap.size w w5 := ext_step k4 (by omega) hb
  have p5 := hb.size
  have r_a := r_a.below (hb.mono (by omega))
  have r_y := r_y.below (hb.mono (by omega))
  have o_y := own_ext o_y hb
  have r_z := b_z.reads (size := 4) (n := n) (by rw [flatMap_len _ 4 (fun _ => rfl), hn_a])
  have o_z := b_z.own (base := w4.heap.size) (size := 4) (n := n) hg_z (by rw [flatMap_len _ 4 (fun _ => rfl), hn_a]) (by unfold maxLen; omega) rfl
  have u_z := fun k hk => (o_z.lt k hk).2
  clear hb
  go_wp2_with fail
  refine (eqMappingS_c _ _ _ _ _ l _ hn_a (by omega) (r_y.more (by omega)) (r_z.more (by omega))).mono ?_
  rintro e w6 ⟨rfl, hb⟩
  have k6 : Below w.heap.size w w6 := ext_step k5 (by omega) hb
  have p6 := hb.size
  have r_a := r_a.below (hb.mono (by omega))
  have r_y := r_y.below (hb.mono (by omega))
  have o_y := own_ext o_y hb
  have r_z := r_z.below (hb.mono (by omega))
  have o_z := own_ext o_z hb
  clear hb
  go_wp2
  go_ret
  exact ⟨rfl, k6⟩
end Go.Proofs.Ytojkakafomieiaa
