/- The walks of the laws on CutPieces. -/
import Derived.Test.YteajedcoidljhaaCut
import Derived.Test.YteajedcoidljhaaPiecesOk
namespace Go.Proofs.Yteajedcoidljhaa
set_option linter.unusedSimpArgs false
set_option linter.unusedVariables false
open Go.RowKit Go.ChangeShapes Go.WideShapes
set_option maxHeartbeats 4000000 in
theorem fnExactCutPieces_walk (at_ n size : Int) (w : World) (_ : I64 at_) (_ : I64 n) (_ : I64 size) :
    Calls Try.prog 9 #[.int .i64 at_, .int .i64 n, .int .i64 size] w fun e w' => e = .returned (.bool true) ∧ Below w.heap.size w w' := by
  have hlen := cutP_len at_ n size
  go_enter Try.func9, Try.ntmps9
  go_wp2_with fail
  refine (specCutPieces_c _ _ _ _).mono ?_
  rintro e w1 ⟨v0, rfl, o0, k1⟩
  obtain ⟨A0, c0, rfl, r0, _, _⟩ := own_form o0
  go_wp2_with fail
  refine (implCutPieces_c _ _ _ _).mono ?_
  rintro e w2 ⟨v1, rfl, o1, hb⟩
  have k2 := ext_step k1 k1.size hb
  have p1 := hb.size
  have r0 := r0.below hb
  obtain ⟨A1, c1, rfl, r1, _, _⟩ := own_form o1
  clear hb o0
  generalize hl : cutP at_ n size = l at *
  have HL := Lib.hid hl
  clear hl
  go_wp2_with fail
  refine (eqPieceS_c _ _ _ _ _ _ _ rfl (by omega) r1 (r0.more p1)).mono ?_
  rintro e w3 ⟨rfl, hb⟩
  have k3 := ext_step k2 k2.size hb
  have p2 := hb.size
  have o1 := own_ext o1 hb
  have r0 := r0.below (hb.mono p1)
  clear hb r1
  go_wp2_with fail
  refine (markPieceS_c _ _ _ _ _ _ _ o1 (by omega) (by omega) (by omega)).mono ?_
  rintro e w4 ⟨rfl, o4, hg⟩
  have k4 : Below w.heap.size w w4 := below_app k3 (own_base o1 k1.size) hg k3.size
  have p3 := hg.size
  have r0 := r0.grown hg (by omega) (fun g hg => (o1.lt g hg).1)
  clear hg o1
  obtain ⟨A4, c4, hv4, r4, _, _⟩ := own_form o4
  injection hv4 with hv1 hv2 hv3
  subst hv1
  subst hv3
  go_wp2_with fail
  refine (heldPieceS_c _ _ _ _ _ r4 (by omega) (by omega) (by omega)).mono ?_
  rintro e w5 ⟨rfl, hb⟩
  have k5 := ext_step k4 k4.size hb
  have p4 := hb.size
  have r4 := r4.below hb
  have r0 := r0.below (hb.mono (by omega))
  clear hb
  go_wp2_with fail
  refine (implCutPieces_c _ _ _ _).mono ?_
  rintro e w6 ⟨v6, rfl, o6, hb⟩
  have k6 := ext_step k5 k5.size hb
  have p5 := hb.size
  have r4 := r4.below (hb.mono p4)
  have r0 := r0.below (hb.mono (by omega))
  obtain ⟨A6, c6, rfl, r6, _, _⟩ := own_form o6
  clear hb o6
  rw [HL.out] at *
  go_wp2_with fail
  refine (eqPieceS_c _ _ _ _ _ _ _ rfl (by omega) r6 (r0.more (by omega))).mono ?_
  rintro e w7 ⟨rfl, hb⟩
  have k7 := ext_step k6 k6.size hb
  have p6 := hb.size
  have r4 := r4.below (hb.mono (by omega))
  clear hb
  go_wp2_with fail
  refine (heldPieceS_c _ _ _ _ _ (r4.more (by omega)) (by omega) (by omega) (by omega)).mono ?_
  rintro e w8 ⟨rfl, hb⟩
  have k8 := ext_step k7 k7.size hb
  clear hb
  go_wp2
  go_ret
  exact ⟨rfl, k8⟩
end Go.Proofs.Yteajedcoidljhaa
