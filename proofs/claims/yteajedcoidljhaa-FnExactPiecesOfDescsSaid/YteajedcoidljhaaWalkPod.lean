/- The walk of laws.FnExactPiecesOfDescs. -/
import Derived.Test.YteajedcoidljhaaConvPiece
import Derived.Test.YteajedcoidljhaaPodI
import Derived.Test.YteajedcoidljhaaPodS
namespace Go.Proofs.Yteajedcoidljhaa
set_option linter.unusedSimpArgs false
set_option linter.unusedVariables false
open Go.RowKit Go.ChangeShapes Go.WideShapes
theorem podR_len (l : List Desc) : (podR l).length ≤ l.length := by
  unfold podR; split
  · rw [podP_len]; omega
  · simp
set_option maxRecDepth 100000 in
set_option maxHeartbeats 8000000 in
theorem fnExactPiecesOfDescs_walk (A : Option Addr) (n c : Nat) (l : List Desc) (w : World) (hs : SlDesc w A n c l) :
    Calls Try.prog 14 #[.slice A n c] w fun e w' => e = .returned (.bool true) ∧ Below w.heap.size w w' := by
  obtain ⟨⟨hn_a, hnc_a, hc_a, r_a⟩, hb_a⟩ := hs
  have hspec := fun A c w => fun (hm : n ≤ 1048576) hr => specPiecesOfDescs_c A n c l w hn_a hm hr hb_a
  have himpl := fun A c w => fun (hnc : n ≤ c) (hcm : c ≤ 9223372036854775807) (hm : n ≤ 1048576) hr => implPiecesOfDescs_c A n c l w hn_a hnc hcm hm hr hb_a
  have hjl := podR_len l
  generalize podR l = lp at *
  generalize podB l = bo at *
  generalize podS l = so at *
  generalize podC l = co at *
  obtain ⟨j, hn_v⟩ : ∃ j, lp.length = j := ⟨_, rfl⟩
  rw [hn_v, hn_a] at hjl
  simp only [hn_v] at hspec himpl
  by_cases hz_a : (1048576 : Int) - n < 0
  · skip
    have hi_a := Lib.hid (szI_neg hz_a)
    go_enter Try.func14, Try.ntmps14
    go_wp2_with fail
    have k0 : Below w.heap.size w w := by go_grown
    have r_a := r_a.below k0
    have p0 := k0.size
    refine (szDescS_c2 _ _ _ (1048576 : Int) _ (by omega) (by omega) (by omega)).mono ?_
    rintro e w_ ⟨rfl, rfl⟩
    rw [hi_a.out]
    go_wp2
    go_ret
    exact ⟨rfl, k0⟩
  have hi_a := Lib.hid (szI_nn hz_a)
  go_enter Try.func14, Try.ntmps14
  go_wp2_with fail
  have k0 : Below w.heap.size w w := by go_grown
  have r_a := r_a.below k0
  have p0 := k0.size
  refine (szDescS_c2 _ _ _ (1048576 : Int) _ (by omega) (by omega) (by omega)).mono ?_
  rintro e w_ ⟨rfl, rfl⟩
  rw [hi_a.out]
  have hs_a : n ≤ 1048576 := by omega
  go_wp2_with fail
  refine (toDescS_c _ _ _ l _ hn_a hs_a (r_a.more (by omega))).mono ?_
  rintro e w1 ⟨g_t, rfl, hg_t, b_t, hb⟩
  have k1 : Below w.heap.size w w1 := ext_step k0 (by omega) hb
  have p1 := hb.size
  replace r_a := r_a.below (hb.mono (by omega))
  have r_t := b_t.reads (size := 6) (n := n) (by rw [flatMap_len _ 6 (fun _ => rfl), hn_a])
  have o_t := b_t.own (base := w.heap.size) (size := 6) (n := n) hg_t (by rw [flatMap_len _ 6 (fun _ => rfl), hn_a]) (by unfold maxLen; omega) rfl
  have u_t := fun k hk => (o_t.lt k hk).2
  clear hb
  go_wp2_with fail
  refine (hspec _ _ _ hs_a (r_t.more (by omega))).mono ?_
  rintro e w2 ⟨A_v, c_v, rfl, o_v, hb⟩
  have k2 : Below w.heap.size w w2 := ext_step k1 (by omega) hb
  have p2 := hb.size
  replace r_a := r_a.below (hb.mono (by omega))
  replace r_t := r_t.below (hb.mono (by omega))
  replace o_t := own_ext o_t hb
  have r_v := Reads.of_own o_v
  have u_v := fun k hk => (o_v.lt k hk).2
  clear hb
  (try clear o_t)
  (try clear r_t)
  go_wp2_with fail
  refine (toDescS_c _ _ _ l _ hn_a hs_a (r_a.more (by omega))).mono ?_
  rintro e w3 ⟨g_x, rfl, hg_x, b_x, hb⟩
  have k3 : Below w.heap.size w w3 := ext_step k2 (by omega) hb
  have p3 := hb.size
  replace r_a := r_a.below (hb.mono (by omega))
  replace r_v := r_v.below (hb.mono (by omega))
  replace o_v := own_ext o_v hb
  have r_x := b_x.reads (size := 6) (n := n) (by rw [flatMap_len _ 6 (fun _ => rfl), hn_a])
  have o_x := b_x.own (base := w2.heap.size) (size := 6) (n := n) hg_x (by rw [flatMap_len _ 6 (fun _ => rfl), hn_a]) (by unfold maxLen; omega) rfl
  have u_x := fun k hk => (o_x.lt k hk).2
  clear hb
  go_wp2_with fail
  refine (himpl _ _ _ (Nat.le_refl _) (by omega) hs_a (r_x.more (by omega))).mono ?_
  rintro e w4 ⟨A_g, c_g, rfl, o_g, hb⟩
  have k4 : Below w.heap.size w w4 := ext_step k3 (by omega) hb
  have p4 := hb.size
  replace r_a := r_a.below (hb.mono (by omega))
  replace r_v := r_v.below (hb.mono (by omega))
  replace o_v := own_ext o_v hb
  replace r_x := r_x.below (hb.mono (by omega))
  replace o_x := own_ext o_x hb
  have r_g := Reads.of_own o_g
  have u_g := fun k hk => (o_g.lt k hk).2
  clear hb
  go_wp2_with fail
  refine (eqPieceS_c _ _ _ _ _ lp _ hn_v (by omega) (r_g.more (by omega)) (r_v.more (by omega))).mono ?_
  rintro e w5 ⟨rfl, hb⟩
  have k5 : Below w.heap.size w w5 := ext_step k4 (by omega) hb
  have p5 := hb.size
  replace r_a := r_a.below (hb.mono (by omega))
  replace r_v := r_v.below (hb.mono (by omega))
  replace o_v := own_ext o_v hb
  replace r_x := r_x.below (hb.mono (by omega))
  replace o_x := own_ext o_x hb
  replace r_g := r_g.below (hb.mono (by omega))
  replace o_g := own_ext o_g hb
  clear hb
  go_wp2_with fail
  refine (toDescS_c _ _ _ l _ hn_a hs_a (r_a.more (by omega))).mono ?_
  rintro e w6 ⟨g_z, rfl, hg_z, b_z, hb⟩
  have k6 : Below w.heap.size w w6 := ext_step k5 (by omega) hb
  have p6 := hb.size
  replace r_a := r_a.below (hb.mono (by omega))
  replace r_v := r_v.below (hb.mono (by omega))
  replace o_v := own_ext o_v hb
  replace r_x := r_x.below (hb.mono (by omega))
  replace o_x := own_ext o_x hb
  replace r_g := r_g.below (hb.mono (by omega))
  replace o_g := own_ext o_g hb
  have r_z := b_z.reads (size := 6) (n := n) (by rw [flatMap_len _ 6 (fun _ => rfl), hn_a])
  have o_z := b_z.own (base := w5.heap.size) (size := 6) (n := n) hg_z (by rw [flatMap_len _ 6 (fun _ => rfl), hn_a]) (by unfold maxLen; omega) rfl
  have u_z := fun k hk => (o_z.lt k hk).2
  clear hb
  go_wp2_with fail
  refine (eqDescS_c _ _ _ _ _ l _ hn_a (by omega) (r_x.more (by omega)) (r_z.more (by omega))).mono ?_
  rintro e w7 ⟨rfl, hb⟩
  have k7 : Below w.heap.size w w7 := ext_step k6 (by omega) hb
  have p7 := hb.size
  replace r_a := r_a.below (hb.mono (by omega))
  replace r_v := r_v.below (hb.mono (by omega))
  replace o_v := own_ext o_v hb
  replace r_x := r_x.below (hb.mono (by omega))
  replace o_x := own_ext o_x hb
  replace r_g := r_g.below (hb.mono (by omega))
  replace o_g := own_ext o_g hb
  replace r_z := r_z.below (hb.mono (by omega))
  replace o_z := own_ext o_z hb
  clear hb
  (try clear o_z)
  (try clear r_z)
  go_wp2_with fail
  refine (markDescS_c _ _ _ _ _ _ _ o_x (by omega) (by omega) (by omega)).mono ?_
  rintro e w8 ⟨rfl, om, hg⟩
  have k8 : Below w.heap.size w w8 := below_app k7 (own_base o_x (by omega)) hg (by omega)
  have p8 := hg.size
  replace r_a := r_a.grown hg (by omega) (fun g hg => Nat.le_trans (by omega) (o_x.lt g hg).1)
  replace o_v := own_far o_v hg (fun g h1 h2 => by have := u_v g h1; have := (o_x.lt g h2).1; omega)
  replace r_v := (Reads.of_own o_v)
  replace o_g := own_far o_g hg (fun g h1 h2 => by have := (o_g.lt g h1).1; have := u_x g h2; omega)
  replace r_g := (Reads.of_own o_g)
  replace o_x := om
  replace r_x := Reads.of_own o_x
  clear hg om
  (try clear o_x)
  (try clear r_x)
  go_wp2_with fail
  refine (eqPieceS_c _ _ _ _ _ lp _ hn_v (by omega) (r_g.more (by omega)) (r_v.more (by omega))).mono ?_
  rintro e w9 ⟨rfl, hb⟩
  have k9 : Below w.heap.size w w9 := ext_step k8 (by omega) hb
  have p9 := hb.size
  replace r_a := r_a.below (hb.mono (by omega))
  replace r_v := r_v.below (hb.mono (by omega))
  replace o_v := own_ext o_v hb
  replace r_g := r_g.below (hb.mono (by omega))
  replace o_g := own_ext o_g hb
  clear hb
  go_wp2_with fail
  refine (markPieceS_c _ _ _ _ _ _ _ o_g (by omega) (by omega) (by omega)).mono ?_
  rintro e w10 ⟨rfl, om, hg⟩
  have k10 : Below w.heap.size w w10 := below_app k9 (own_base o_g (by omega)) hg (by omega)
  have p10 := hg.size
  replace r_a := r_a.grown hg (by omega) (fun g hg => Nat.le_trans (by omega) (o_g.lt g hg).1)
  replace o_v := own_far o_v hg (fun g h1 h2 => by have := u_v g h1; have := (o_g.lt g h2).1; omega)
  replace r_v := (Reads.of_own o_v)
  replace o_g := om
  replace r_g := Reads.of_own o_g
  clear hg om
  go_wp2_with fail
  refine (heldPieceS_c _ _ _ _ _ (r_g.more (by omega)) (by omega) (by omega) (by omega)).mono ?_
  rintro e w11 ⟨rfl, hb⟩
  have k11 : Below w.heap.size w w11 := ext_step k10 (by omega) hb
  have p11 := hb.size
  replace r_a := r_a.below (hb.mono (by omega))
  replace r_v := r_v.below (hb.mono (by omega))
  replace o_v := own_ext o_v hb
  replace r_g := r_g.below (hb.mono (by omega))
  replace o_g := own_ext o_g hb
  clear hb
  go_wp2_with fail
  refine (toDescS_c _ _ _ l _ hn_a hs_a (r_a.more (by omega))).mono ?_
  rintro e w12 ⟨g_t, rfl, hg_t, b_t, hb⟩
  have k12 : Below w.heap.size w w12 := ext_step k11 (by omega) hb
  have p12 := hb.size
  replace r_a := r_a.below (hb.mono (by omega))
  replace r_v := r_v.below (hb.mono (by omega))
  replace o_v := own_ext o_v hb
  replace r_g := r_g.below (hb.mono (by omega))
  replace o_g := own_ext o_g hb
  have r_t := b_t.reads (size := 6) (n := n) (by rw [flatMap_len _ 6 (fun _ => rfl), hn_a])
  have o_t := b_t.own (base := w11.heap.size) (size := 6) (n := n) hg_t (by rw [flatMap_len _ 6 (fun _ => rfl), hn_a]) (by unfold maxLen; omega) rfl
  have u_t := fun k hk => (o_t.lt k hk).2
  clear hb
  go_wp2_with fail
  refine (himpl _ _ _ (Nat.le_refl _) (by omega) hs_a (r_t.more (by omega))).mono ?_
  rintro e w13 ⟨A_h, c_h, rfl, o_h, hb⟩
  have k13 : Below w.heap.size w w13 := ext_step k12 (by omega) hb
  have p13 := hb.size
  replace r_a := r_a.below (hb.mono (by omega))
  replace r_v := r_v.below (hb.mono (by omega))
  replace o_v := own_ext o_v hb
  replace r_g := r_g.below (hb.mono (by omega))
  replace o_g := own_ext o_g hb
  replace r_t := r_t.below (hb.mono (by omega))
  replace o_t := own_ext o_t hb
  have r_h := Reads.of_own o_h
  have u_h := fun k hk => (o_h.lt k hk).2
  clear hb
  (try clear o_t)
  (try clear r_t)
  go_wp2_with fail
  refine (eqPieceS_c _ _ _ _ _ lp _ hn_v (by omega) (r_h.more (by omega)) (r_v.more (by omega))).mono ?_
  rintro e w14 ⟨rfl, hb⟩
  have k14 : Below w.heap.size w w14 := ext_step k13 (by omega) hb
  have p14 := hb.size
  replace r_a := r_a.below (hb.mono (by omega))
  replace r_v := r_v.below (hb.mono (by omega))
  replace o_v := own_ext o_v hb
  replace r_g := r_g.below (hb.mono (by omega))
  replace o_g := own_ext o_g hb
  replace r_h := r_h.below (hb.mono (by omega))
  replace o_h := own_ext o_h hb
  clear hb
  (try clear o_h)
  (try clear r_h)
  (try clear o_v)
  (try clear r_v)
  go_wp2_with fail
  refine (heldPieceS_c _ _ _ _ _ (r_g.more (by omega)) (by omega) (by omega) (by omega)).mono ?_
  rintro e w15 ⟨rfl, hb⟩
  have k15 : Below w.heap.size w w15 := ext_step k14 (by omega) hb
  have p15 := hb.size
  replace r_a := r_a.below (hb.mono (by omega))
  replace r_g := r_g.below (hb.mono (by omega))
  replace o_g := own_ext o_g hb
  clear hb
  go_wp2
  go_ret
  exact ⟨rfl, k15⟩
end Go.Proofs.Yteajedcoidljhaa
