/- The walk of laws.FnExactPiecesApart. -/
import Derived.Test.YtjeenjblenpinaaConvMap
import Derived.Test.YtjeenjblenpinaaConvPiece
import Derived.Test.YtjeenjblenpinaaApart
namespace Go.Proofs.Ytjeenjblenpinaa
set_option linter.unusedSimpArgs false
set_option linter.unusedVariables false
open Go.RowKit Go.ChangeShapes Go.WideShapes
set_option maxRecDepth 100000 in
set_option maxHeartbeats 4000000 in
theorem fnExactPiecesApart_walk (A : Option Addr) (n c : Nat) (l : List Mapping) (d : Int) (A3 : Option Addr) (n3 c3 : Nat) (l3 : List Piece) (w : World) (hs : SlMapping w A n c l) (q0 : I64 d) (hs3 : SlPiece w A3 n3 c3 l3) :
    Calls Try.prog 8 #[.slice A n c, .int .i64 d, .slice A3 n3 c3] w fun e w' => e = .returned (.bool true) ∧ Below w.heap.size w w' := by
  obtain ⟨⟨hn_a, hnc_a, hc_a, r_a⟩, hb_a⟩ := hs
  obtain ⟨⟨hn_p, hnc_p, hc_p, r_p⟩, hb_p⟩ := hs3
  have hspec := fun A c A3 c3 w => fun (hm : n ≤ 1048576) (hm3 : n3 ≤ 1048576) hr hr3 => specPiecesApart_c A A3 n c n3 c3 l l3 w hn_a hn_p hm hm3 hr hr3 d hb_p
  have himpl := fun A c A3 c3 w => fun (hm : n ≤ 1048576) (hm3 : n3 ≤ 1048576) hr hr3 => implPiecesApart_c A A3 n c n3 c3 l l3 w hn_a hn_p hm hm3 hr hr3 d hb_p
  generalize apartB l d l3 = bo at *
  by_cases hz_a : (1048576 : Int) - n < 0
  · skip
    have hi_a := Lib.hid (szI_neg hz_a)
    go_enter Try.func8, Try.ntmps8
    go_wp2_with fail
    have k0 : Below w.heap.size w w := by go_grown
    have r_a := r_a.below k0
    have r_p := r_p.below k0
    have p0 := k0.size
    refine (szMappingS_c2 _ _ _ (1048576 : Int) _ (by omega) (by omega) (by omega)).mono ?_
    rintro e w_ ⟨rfl, rfl⟩
    rw [hi_a.out]
    go_wp2
    go_ret
    exact ⟨rfl, k0⟩
  have hi_a := Lib.hid (szI_nn hz_a)
  by_cases hz_p : ((1048576 : Int) - n) - n3 < 0
  · skip
    have hi_p := Lib.hid (szI_neg hz_p)
    go_enter Try.func8, Try.ntmps8
    go_wp2_with fail
    have k0 : Below w.heap.size w w := by go_grown
    have r_a := r_a.below k0
    have r_p := r_p.below k0
    have p0 := k0.size
    refine (szMappingS_c2 _ _ _ (1048576 : Int) _ (by omega) (by omega) (by omega)).mono ?_
    rintro e w_ ⟨rfl, rfl⟩
    rw [hi_a.out]
    go_wp2_with fail
    refine (szPieceS_c2 _ _ _ ((1048576 : Int) - n) _ (by omega) (by omega) (by omega)).mono ?_
    rintro e w_ ⟨rfl, rfl⟩
    rw [hi_p.out]
    go_wp2
    go_ret
    exact ⟨rfl, k0⟩
  have hi_p := Lib.hid (szI_nn hz_p)
  go_enter Try.func8, Try.ntmps8
  go_wp2_with fail
  have k0 : Below w.heap.size w w := by go_grown
  have r_a := r_a.below k0
  have r_p := r_p.below k0
  have p0 := k0.size
  refine (szMappingS_c2 _ _ _ (1048576 : Int) _ (by omega) (by omega) (by omega)).mono ?_
  rintro e w_ ⟨rfl, rfl⟩
  rw [hi_a.out]
  go_wp2_with fail
  refine (szPieceS_c2 _ _ _ ((1048576 : Int) - n) _ (by omega) (by omega) (by omega)).mono ?_
  rintro e w_ ⟨rfl, rfl⟩
  rw [hi_p.out]
  have hs_a : n ≤ 1048576 := by omega
  have hs_p : n3 ≤ 1048576 := by omega
  go_wp2_with fail
  refine (toMappingS_c _ _ _ l _ hn_a hs_a (r_a.more (by omega))).mono ?_
  rintro e w1 ⟨g_t, rfl, hg_t, b_t, hb⟩
  have k1 : Below w.heap.size w w1 := ext_step k0 (by omega) hb
  have p1 := hb.size
  replace r_a := r_a.below (hb.mono (by omega))
  replace r_p := r_p.below (hb.mono (by omega))
  have r_t := b_t.reads (size := 4) (n := n) (by rw [flatMap_len _ 4 (fun _ => rfl), hn_a])
  have o_t := b_t.own (base := w.heap.size) (size := 4) (n := n) hg_t (by rw [flatMap_len _ 4 (fun _ => rfl), hn_a]) (by unfold maxLen; omega) rfl
  have u_t := fun k hk => (o_t.lt k hk).2
  clear hb
  go_wp2_with fail
  refine (toPieceS_c _ _ _ l3 _ hn_p hs_p (r_p.more (by omega))).mono ?_
  rintro e w2 ⟨g_u, rfl, hg_u, b_u, hb⟩
  have k2 : Below w.heap.size w w2 := ext_step k1 (by omega) hb
  have p2 := hb.size
  replace r_a := r_a.below (hb.mono (by omega))
  replace r_p := r_p.below (hb.mono (by omega))
  replace r_t := r_t.below (hb.mono (by omega))
  replace o_t := own_ext o_t hb
  have r_u := b_u.reads (size := 2) (n := n3) (by rw [flatMap_len _ 2 (fun _ => rfl), hn_p])
  have o_u := b_u.own (base := w1.heap.size) (size := 2) (n := n3) hg_u (by rw [flatMap_len _ 2 (fun _ => rfl), hn_p]) (by unfold maxLen; omega) rfl
  have u_u := fun k hk => (o_u.lt k hk).2
  clear hb
  go_wp2_with fail
  refine (hspec _ _ _ _ _ hs_a hs_p (r_t.more (by omega)) (r_u.more (by omega))).mono ?_
  rintro e w3 ⟨rfl, hb⟩
  have k3 : Below w.heap.size w w3 := ext_step k2 (by omega) hb
  have p3 := hb.size
  replace r_a := r_a.below (hb.mono (by omega))
  replace r_p := r_p.below (hb.mono (by omega))
  replace r_t := r_t.below (hb.mono (by omega))
  replace o_t := own_ext o_t hb
  replace r_u := r_u.below (hb.mono (by omega))
  replace o_u := own_ext o_u hb
  clear hb
  (try clear o_t)
  (try clear r_t)
  (try clear o_u)
  (try clear r_u)
  go_wp2_with fail
  refine (toMappingS_c _ _ _ l _ hn_a hs_a (r_a.more (by omega))).mono ?_
  rintro e w4 ⟨g_x, rfl, hg_x, b_x, hb⟩
  have k4 : Below w.heap.size w w4 := ext_step k3 (by omega) hb
  have p4 := hb.size
  replace r_a := r_a.below (hb.mono (by omega))
  replace r_p := r_p.below (hb.mono (by omega))
  have r_x := b_x.reads (size := 4) (n := n) (by rw [flatMap_len _ 4 (fun _ => rfl), hn_a])
  have o_x := b_x.own (base := w3.heap.size) (size := 4) (n := n) hg_x (by rw [flatMap_len _ 4 (fun _ => rfl), hn_a]) (by unfold maxLen; omega) rfl
  have u_x := fun k hk => (o_x.lt k hk).2
  clear hb
  go_wp2_with fail
  refine (toPieceS_c _ _ _ l3 _ hn_p hs_p (r_p.more (by omega))).mono ?_
  rintro e w5 ⟨g_q, rfl, hg_q, b_q, hb⟩
  have k5 : Below w.heap.size w w5 := ext_step k4 (by omega) hb
  have p5 := hb.size
  replace r_a := r_a.below (hb.mono (by omega))
  replace r_p := r_p.below (hb.mono (by omega))
  replace r_x := r_x.below (hb.mono (by omega))
  replace o_x := own_ext o_x hb
  have r_q := b_q.reads (size := 2) (n := n3) (by rw [flatMap_len _ 2 (fun _ => rfl), hn_p])
  have o_q := b_q.own (base := w4.heap.size) (size := 2) (n := n3) hg_q (by rw [flatMap_len _ 2 (fun _ => rfl), hn_p]) (by unfold maxLen; omega) rfl
  have u_q := fun k hk => (o_q.lt k hk).2
  clear hb
  go_wp2_with fail
  refine (himpl _ _ _ _ _ hs_a hs_p (r_x.more (by omega)) (r_q.more (by omega))).mono ?_
  rintro e w6 ⟨rfl, hb⟩
  have k6 : Below w.heap.size w w6 := ext_step k5 (by omega) hb
  have p6 := hb.size
  replace r_a := r_a.below (hb.mono (by omega))
  replace r_p := r_p.below (hb.mono (by omega))
  replace r_x := r_x.below (hb.mono (by omega))
  replace o_x := own_ext o_x hb
  replace r_q := r_q.below (hb.mono (by omega))
  replace o_q := own_ext o_q hb
  clear hb
  go_wp2_with fail
  refine (toMappingS_c _ _ _ l _ hn_a hs_a (r_a.more (by omega))).mono ?_
  rintro e w7 ⟨g_z, rfl, hg_z, b_z, hb⟩
  have k7 : Below w.heap.size w w7 := ext_step k6 (by omega) hb
  have p7 := hb.size
  replace r_a := r_a.below (hb.mono (by omega))
  replace r_p := r_p.below (hb.mono (by omega))
  replace r_x := r_x.below (hb.mono (by omega))
  replace o_x := own_ext o_x hb
  replace r_q := r_q.below (hb.mono (by omega))
  replace o_q := own_ext o_q hb
  have r_z := b_z.reads (size := 4) (n := n) (by rw [flatMap_len _ 4 (fun _ => rfl), hn_a])
  have o_z := b_z.own (base := w6.heap.size) (size := 4) (n := n) hg_z (by rw [flatMap_len _ 4 (fun _ => rfl), hn_a]) (by unfold maxLen; omega) rfl
  have u_z := fun k hk => (o_z.lt k hk).2
  clear hb
  go_wp2_with fail
  refine (eqMappingS_c _ _ _ _ _ l _ hn_a (by omega) (r_x.more (by omega)) (r_z.more (by omega))).mono ?_
  rintro e w8 ⟨rfl, hb⟩
  have k8 : Below w.heap.size w w8 := ext_step k7 (by omega) hb
  have p8 := hb.size
  replace r_a := r_a.below (hb.mono (by omega))
  replace r_p := r_p.below (hb.mono (by omega))
  replace r_x := r_x.below (hb.mono (by omega))
  replace o_x := own_ext o_x hb
  replace r_q := r_q.below (hb.mono (by omega))
  replace o_q := own_ext o_q hb
  replace r_z := r_z.below (hb.mono (by omega))
  replace o_z := own_ext o_z hb
  clear hb
  (try clear o_z)
  (try clear r_z)
  go_wp2_with fail
  refine (toPieceS_c _ _ _ l3 _ hn_p hs_p (r_p.more (by omega))).mono ?_
  rintro e w9 ⟨g_z, rfl, hg_z, b_z, hb⟩
  have k9 : Below w.heap.size w w9 := ext_step k8 (by omega) hb
  have p9 := hb.size
  replace r_a := r_a.below (hb.mono (by omega))
  replace r_p := r_p.below (hb.mono (by omega))
  replace r_x := r_x.below (hb.mono (by omega))
  replace o_x := own_ext o_x hb
  replace r_q := r_q.below (hb.mono (by omega))
  replace o_q := own_ext o_q hb
  have r_z := b_z.reads (size := 2) (n := n3) (by rw [flatMap_len _ 2 (fun _ => rfl), hn_p])
  have o_z := b_z.own (base := w8.heap.size) (size := 2) (n := n3) hg_z (by rw [flatMap_len _ 2 (fun _ => rfl), hn_p]) (by unfold maxLen; omega) rfl
  have u_z := fun k hk => (o_z.lt k hk).2
  clear hb
  go_wp2_with fail
  refine (eqPieceS_c _ _ _ _ _ l3 _ hn_p (by omega) (r_q.more (by omega)) (r_z.more (by omega))).mono ?_
  rintro e w10 ⟨rfl, hb⟩
  have k10 : Below w.heap.size w w10 := ext_step k9 (by omega) hb
  have p10 := hb.size
  replace r_a := r_a.below (hb.mono (by omega))
  replace r_p := r_p.below (hb.mono (by omega))
  replace r_x := r_x.below (hb.mono (by omega))
  replace o_x := own_ext o_x hb
  replace r_q := r_q.below (hb.mono (by omega))
  replace o_q := own_ext o_q hb
  replace r_z := r_z.below (hb.mono (by omega))
  replace o_z := own_ext o_z hb
  clear hb
  go_wp2
  go_ret
  exact ⟨rfl, k10⟩
end Go.Proofs.Ytjeenjblenpinaa
