/- The walk of laws.FnExactWritablePages. -/
import Derived.Test.YtojkakafomieiaaConvMap
import Derived.Test.YtojkakafomieiaaConvInt
import Derived.Test.YtojkakafomieiaaWrPages
namespace Go.Proofs.Ytojkakafomieiaa
set_option linter.unusedSimpArgs false
set_option linter.unusedVariables false
open Go.RowKit Go.ChangeShapes Go.WideShapes
theorem wrL_len (l : List Mapping) (d : Int) : (wrL l d).length ≤ 64 := by
  unfold wrL; split
  · exact wrK_len l d 64
  · simp
set_option maxRecDepth 100000 in
set_option maxHeartbeats 4000000 in
theorem fnExactWritablePages_walk (A : Option Addr) (n c : Nat) (l : List Mapping) (d : Int) (w : World) (hs : SlMapping w A n c l) (hd : I64 d) :
    Calls Try.prog 13 #[.slice A n c, .int .i64 d] w fun e w' => e = .returned (.bool true) ∧ Below w.heap.size w w' := by
  obtain ⟨⟨hn_a, hnc_a, hc_a, r_a⟩, hb_a⟩ := hs
  have hspec := fun A c w => fun (hm : n ≤ 1048576) hr => specWritablePages_c A n c l w hn_a hm hr d
  have himpl := fun A c w => fun (hm : n ≤ 1048576) hr => implWritablePages_c A n c l w hn_a hm hr d
  have hjn := wrL_len l d
  generalize wrL l d = lv at *
  obtain ⟨j, hn_v⟩ : ∃ j, lv.length = j := ⟨_, rfl⟩
  simp only [hn_v] at hspec himpl hjn
  by_cases hz_a : (1048576 : Int) - n < 0
  · skip
    have hi_a := Lib.hid (szI_neg hz_a)
    go_enter Try.func13, Try.ntmps13
    go_wp2_with fail
    have k0 : Below w.heap.size w w := by go_grown
    have r_a := r_a.below k0
    have p0 := k0.size
    refine (szMappingS_c2 _ _ _ (1048576 : Int) _ (by omega) (by omega) (by omega)).mono ?_
    rintro e w_ ⟨rfl, rfl⟩
    rw [hi_a.out]
    go_wp2
    go_ret
    exact ⟨rfl, k0⟩
  have hi_a := Lib.hid (szI_nn hz_a)
  go_enter Try.func13, Try.ntmps13
  go_wp2_with fail
  have k0 : Below w.heap.size w w := by go_grown
  have r_a := r_a.below k0
  have p0 := k0.size
  refine (szMappingS_c2 _ _ _ (1048576 : Int) _ (by omega) (by omega) (by omega)).mono ?_
  rintro e w_ ⟨rfl, rfl⟩
  rw [hi_a.out]
  have hs_a : n ≤ 1048576 := by omega
  have hj := hjn
  go_wp2_with fail
  refine (toMappingS_c _ _ _ l _ hn_a hs_a (r_a.more (by omega))).mono ?_
  rintro e w1 ⟨g_t, rfl, hg_t, b_t, hb⟩
  have k1 : Below w.heap.size w w1 := ext_step k0 (by omega) hb
  have p1 := hb.size
  have r_a := r_a.below (hb.mono (by omega))
  have r_t := b_t.reads (size := 4) (n := n) (by rw [flatMap_len _ 4 (fun _ => rfl), hn_a])
  have o_t := b_t.own (base := w.heap.size) (size := 4) (n := n) hg_t (by rw [flatMap_len _ 4 (fun _ => rfl), hn_a]) (by unfold maxLen; omega) rfl
  have u_t := fun k hk => (o_t.lt k hk).2
  clear hb
  go_wp2_with fail
  refine (hspec _ _ _ hs_a (r_t.more (by omega))).mono ?_
  rintro e w2 ⟨A_v, c_v, rfl, o_v, hb⟩
  have k2 : Below w.heap.size w w2 := ext_step k1 (by omega) hb
  have p2 := hb.size
  have r_a := r_a.below (hb.mono (by omega))
  have r_t := r_t.below (hb.mono (by omega))
  have o_t := own_ext o_t hb
  have r_v := Reads.of_own o_v
  have u_v := fun k hk => (o_v.lt k hk).2
  clear hb
  go_wp2_with fail
  refine (toMappingS_c _ _ _ l _ hn_a hs_a (r_a.more (by omega))).mono ?_
  rintro e w3 ⟨g_x, rfl, hg_x, b_x, hb⟩
  have k3 : Below w.heap.size w w3 := ext_step k2 (by omega) hb
  have p3 := hb.size
  have r_a := r_a.below (hb.mono (by omega))
  have r_v := r_v.below (hb.mono (by omega))
  have o_v := own_ext o_v hb
  have r_x := b_x.reads (size := 4) (n := n) (by rw [flatMap_len _ 4 (fun _ => rfl), hn_a])
  have o_x := b_x.own (base := w2.heap.size) (size := 4) (n := n) hg_x (by rw [flatMap_len _ 4 (fun _ => rfl), hn_a]) (by unfold maxLen; omega) rfl
  have u_x := fun k hk => (o_x.lt k hk).2
  clear hb
  go_wp2_with fail
  refine (himpl _ _ _ hs_a (r_x.more (by omega))).mono ?_
  rintro e w4 ⟨A_g, c_g, rfl, o_g, hb⟩
  have k4 : Below w.heap.size w w4 := ext_step k3 (by omega) hb
  have p4 := hb.size
  have r_a := r_a.below (hb.mono (by omega))
  have r_v := r_v.below (hb.mono (by omega))
  have o_v := own_ext o_v hb
  have r_x := r_x.below (hb.mono (by omega))
  have o_x := own_ext o_x hb
  have r_g := Reads.of_own o_g
  have u_g := fun k hk => (o_g.lt k hk).2
  clear hb
  go_wp2_with fail
  refine (eqIntS_c _ _ _ _ _ lv _ hn_v (by omega) (r_g.more (by omega)) (r_v.more (by omega))).mono ?_
  rintro e w5 ⟨rfl, hb⟩
  have k5 : Below w.heap.size w w5 := ext_step k4 (by omega) hb
  have p5 := hb.size
  have r_a := r_a.below (hb.mono (by omega))
  have r_v := r_v.below (hb.mono (by omega))
  have o_v := own_ext o_v hb
  have r_x := r_x.below (hb.mono (by omega))
  have o_x := own_ext o_x hb
  have r_g := r_g.below (hb.mono (by omega))
  have o_g := own_ext o_g hb
  clear hb
  go_wp2_with fail
  refine (toMappingS_c _ _ _ l _ hn_a hs_a (r_a.more (by omega))).mono ?_
  rintro e w6 ⟨g_z, rfl, hg_z, b_z, hb⟩
  have k6 : Below w.heap.size w w6 := ext_step k5 (by omega) hb
  have p6 := hb.size
  have r_a := r_a.below (hb.mono (by omega))
  have r_v := r_v.below (hb.mono (by omega))
  have o_v := own_ext o_v hb
  have r_x := r_x.below (hb.mono (by omega))
  have o_x := own_ext o_x hb
  have r_g := r_g.below (hb.mono (by omega))
  have o_g := own_ext o_g hb
  have r_z := b_z.reads (size := 4) (n := n) (by rw [flatMap_len _ 4 (fun _ => rfl), hn_a])
  have o_z := b_z.own (base := w5.heap.size) (size := 4) (n := n) hg_z (by rw [flatMap_len _ 4 (fun _ => rfl), hn_a]) (by unfold maxLen; omega) rfl
  have u_z := fun k hk => (o_z.lt k hk).2
  clear hb
  go_wp2_with fail
  refine (eqMappingS_c _ _ _ _ _ l _ hn_a (by omega) (r_x.more (by omega)) (r_z.more (by omega))).mono ?_
  rintro e w7 ⟨rfl, hb⟩
  have k7 : Below w.heap.size w w7 := ext_step k6 (by omega) hb
  have p7 := hb.size
  have r_a := r_a.below (hb.mono (by omega))
  have r_v := r_v.below (hb.mono (by omega))
  have o_v := own_ext o_v hb
  have r_x := r_x.below (hb.mono (by omega))
  have o_x := own_ext o_x hb
  have r_g := r_g.below (hb.mono (by omega))
  have o_g := own_ext o_g hb
  have r_z := r_z.below (hb.mono (by omega))
  have o_z := own_ext o_z hb
  clear hb
  go_wp2_with fail
  refine (markMappingS_c _ _ _ _ _ _ _ o_x (by omega) (by omega) (by omega)).mono ?_
  rintro e w8 ⟨rfl, om, hg⟩
  have k8 : Below w.heap.size w w8 := below_app k7 (own_base o_x (by omega)) hg (by omega)
  have p8 := hg.size
  have r_a := r_a.grown hg (by omega) (fun g hg => Nat.le_trans (by omega) (o_x.lt g hg).1)
  have r_v := r_v.grown hg (by omega) (fun g hg => Nat.le_trans (by omega) (o_x.lt g hg).1)
  have o_v := own_far o_v hg (fun g h1 h2 => by have := u_v g h1; have := (o_x.lt g h2).1; omega)
  have o_g := own_far o_g hg (fun g h1 h2 => by have := (o_g.lt g h1).1; have := u_x g h2; omega)
  have r_g := (Reads.of_own o_g)
  have o_x := om
  have r_x := Reads.of_own o_x
  clear hg om
  go_wp2_with fail
  refine (eqIntS_c _ _ _ _ _ lv _ hn_v (by omega) (r_g.more (by omega)) (r_v.more (by omega))).mono ?_
  rintro e w9 ⟨rfl, hb⟩
  have k9 : Below w.heap.size w w9 := ext_step k8 (by omega) hb
  have p9 := hb.size
  have r_a := r_a.below (hb.mono (by omega))
  have r_v := r_v.below (hb.mono (by omega))
  have o_v := own_ext o_v hb
  have r_g := r_g.below (hb.mono (by omega))
  have o_g := own_ext o_g hb
  clear hb
  go_wp2_with fail
  refine (markIntS_c _ _ _ _ _ _ _ o_g (by omega) (by omega) (by omega)).mono ?_
  rintro e w10 ⟨rfl, om, hg⟩
  have k10 : Below w.heap.size w w10 := below_app k9 (own_base o_g (by omega)) hg (by omega)
  have p10 := hg.size
  have r_a := r_a.grown hg (by omega) (fun g hg => Nat.le_trans (by omega) (o_g.lt g hg).1)
  have r_v := r_v.grown hg (by omega) (fun g hg => Nat.le_trans (by omega) (o_g.lt g hg).1)
  have o_v := own_far o_v hg (fun g h1 h2 => by have := u_v g h1; have := (o_g.lt g h2).1; omega)
  have o_g := om
  have r_g := Reads.of_own o_g
  clear hg om
  go_wp2_with fail
  refine (heldIntS_c _ _ _ _ _ (r_g.more (by omega)) (by omega) (by omega) (by omega)).mono ?_
  rintro e w11 ⟨rfl, hb⟩
  have k11 : Below w.heap.size w w11 := ext_step k10 (by omega) hb
  have p11 := hb.size
  have r_a := r_a.below (hb.mono (by omega))
  have r_v := r_v.below (hb.mono (by omega))
  have o_v := own_ext o_v hb
  have r_g := r_g.below (hb.mono (by omega))
  have o_g := own_ext o_g hb
  clear hb
  go_wp2_with fail
  refine (toMappingS_c _ _ _ l _ hn_a hs_a (r_a.more (by omega))).mono ?_
  rintro e w12 ⟨g_t, rfl, hg_t, b_t, hb⟩
  have k12 : Below w.heap.size w w12 := ext_step k11 (by omega) hb
  have p12 := hb.size
  have r_a := r_a.below (hb.mono (by omega))
  have r_v := r_v.below (hb.mono (by omega))
  have o_v := own_ext o_v hb
  have r_g := r_g.below (hb.mono (by omega))
  have o_g := own_ext o_g hb
  have r_t := b_t.reads (size := 4) (n := n) (by rw [flatMap_len _ 4 (fun _ => rfl), hn_a])
  have o_t := b_t.own (base := w11.heap.size) (size := 4) (n := n) hg_t (by rw [flatMap_len _ 4 (fun _ => rfl), hn_a]) (by unfold maxLen; omega) rfl
  have u_t := fun k hk => (o_t.lt k hk).2
  clear hb
  go_wp2_with fail
  refine (himpl _ _ _ hs_a (r_t.more (by omega))).mono ?_
  rintro e w13 ⟨A_h, c_h, rfl, o_h, hb⟩
  have k13 : Below w.heap.size w w13 := ext_step k12 (by omega) hb
  have p13 := hb.size
  have r_a := r_a.below (hb.mono (by omega))
  have r_v := r_v.below (hb.mono (by omega))
  have o_v := own_ext o_v hb
  have r_g := r_g.below (hb.mono (by omega))
  have o_g := own_ext o_g hb
  have r_t := r_t.below (hb.mono (by omega))
  have o_t := own_ext o_t hb
  have r_h := Reads.of_own o_h
  have u_h := fun k hk => (o_h.lt k hk).2
  clear hb
  go_wp2_with fail
  refine (eqIntS_c _ _ _ _ _ lv _ hn_v (by omega) (r_h.more (by omega)) (r_v.more (by omega))).mono ?_
  rintro e w14 ⟨rfl, hb⟩
  have k14 : Below w.heap.size w w14 := ext_step k13 (by omega) hb
  have p14 := hb.size
  have r_a := r_a.below (hb.mono (by omega))
  have r_v := r_v.below (hb.mono (by omega))
  have o_v := own_ext o_v hb
  have r_g := r_g.below (hb.mono (by omega))
  have o_g := own_ext o_g hb
  have r_h := r_h.below (hb.mono (by omega))
  have o_h := own_ext o_h hb
  clear hb
  go_wp2_with fail
  refine (heldIntS_c _ _ _ _ _ (r_g.more (by omega)) (by omega) (by omega) (by omega)).mono ?_
  rintro e w15 ⟨rfl, hb⟩
  have k15 : Below w.heap.size w w15 := ext_step k14 (by omega) hb
  have p15 := hb.size
  have r_a := r_a.below (hb.mono (by omega))
  have r_g := r_g.below (hb.mono (by omega))
  have o_g := own_ext o_g hb
  clear hb
  go_wp2
  go_ret
  exact ⟨rfl, k15⟩
end Go.Proofs.Ytojkakafomieiaa
