/- The walks of the laws on PiecesOk and PiecesLength. -/
import Derived.Test.YteajedcoidljhaaConvPiece
import Derived.Test.YteajedcoidljhaaPiecesOk
namespace Go.Proofs.Yteajedcoidljhaa
set_option linter.unusedSimpArgs false
set_option linter.unusedVariables false
open Go.RowKit Go.ChangeShapes Go.WideShapes
set_option maxHeartbeats 1000000 in
theorem fnExactPiecesOk_walk (A : Option Addr) (n c : Nat) (l : List Piece) (w : World) (hs : SlPiece w A n c l) :
    Calls Try.prog 8 #[.slice A n c] w fun e w' => e = .returned (.bool true) ∧ Below w.heap.size w w' := by
  obtain ⟨⟨hn, hnc, hc, hr⟩, hok⟩ := hs
  have hm : n ≤ 9223372036854775807 := by omega
  by_cases hbig : (1048576 : Int) - n < 0
  · go_enter Try.func8, Try.ntmps8
    go_wp2_with fail
    refine (szPieceS_c _ _ _ _ _ (by omega) (by omega) hm).mono ?_
    rintro e w1 ⟨rfl, rfl⟩
    go_wp2
    go_ret
    exact ⟨rfl, Below.refl _ _⟩
  have hbig2 : n ≤ 1048576 := by omega
  have HN := Lib.hid hn
  go_enter Try.func8, Try.ntmps8
  go_wp2_with fail
  refine (szPieceS_c _ _ _ _ _ (by omega) (by omega) hm).mono ?_
  rintro e w1 ⟨rfl, rfl⟩
  go_wp2_with fail
  refine (toPieceS_c _ _ _ _ _ hn hbig2 hr).mono ?_
  rintro e w1 ⟨g1, rfl, hg1, b1, k1⟩
  have r1 : Reads w1 w1.heap.size 2 _ n (l.flatMap Piece.cells) := b1.reads (by rw [flatMap_len _ 2 (fun _ => rfl), hn])
  go_wp2_with fail
  refine (specPiecesOk_c _ _ _ _ _ hn (by omega) r1).mono ?_
  rintro e w2 ⟨rfl, hb⟩
  have k2 := ext_step k1 k1.size hb
  clear hb
  go_wp2_with fail
  refine (toPieceS_c _ _ _ _ _ hn hbig2 (hr.to k2)).mono ?_
  rintro e w3 ⟨g3, rfl, hg3, b3, hb⟩
  have k3 := ext_step k2 k2.size hb
  clear hb
  have r3 : Reads w3 w3.heap.size 2 _ n (l.flatMap Piece.cells) := b3.reads (by rw [flatMap_len _ 2 (fun _ => rfl), hn])
  go_wp2_with fail
  refine (implPiecesOk_c _ _ _ _ _ hn (by omega) r3).mono ?_
  rintro e w4 ⟨rfl, hb⟩
  have k4 := ext_step k3 k3.size hb
  have r4 := r3.to hb
  clear hb
  go_wp2_with fail
  refine (toPieceS_c _ _ _ _ _ hn hbig2 (hr.to k4)).mono ?_
  rintro e w5 ⟨g5, rfl, hg5, b5, hb⟩
  have k5 := ext_step k4 k4.size hb
  have r5 := r4.to hb
  clear hb
  have s5 : Reads w5 w5.heap.size 2 _ n (l.flatMap Piece.cells) := b5.reads (by rw [flatMap_len _ 2 (fun _ => rfl), hn])
  go_wp2_with fail
  refine (eqPieceS_c _ _ _ _ _ _ _ hn (by omega) r5 s5).mono ?_
  rintro e w6 ⟨rfl, hb⟩
  have k6 := ext_step k5 k5.size hb
  clear hb
  go_wp2
  go_ret
  exact ⟨rfl, k6⟩

set_option maxHeartbeats 1000000 in
theorem fnExactPiecesLength_walk (A : Option Addr) (n c : Nat) (l : List Piece) (w : World) (hs : SlPiece w A n c l) :
    Calls Try.prog 10 #[.slice A n c] w fun e w' => e = .returned (.bool true) ∧ Below w.heap.size w w' := by
  obtain ⟨⟨hn, hnc, hc, hr⟩, hok⟩ := hs
  have hm : n ≤ 9223372036854775807 := by omega
  by_cases hbig : (1048576 : Int) - n < 0
  · go_enter Try.func10, Try.ntmps10
    go_wp2_with fail
    refine (szPieceS_c _ _ _ _ _ (by omega) (by omega) hm).mono ?_
    rintro e w1 ⟨rfl, rfl⟩
    go_wp2
    go_ret
    exact ⟨rfl, Below.refl _ _⟩
  have hbig2 : n ≤ 1048576 := by omega
  have HN := Lib.hid hn
  go_enter Try.func10, Try.ntmps10
  go_wp2_with fail
  refine (szPieceS_c _ _ _ _ _ (by omega) (by omega) hm).mono ?_
  rintro e w1 ⟨rfl, rfl⟩
  go_wp2_with fail
  refine (toPieceS_c _ _ _ _ _ hn hbig2 hr).mono ?_
  rintro e w1 ⟨g1, rfl, hg1, b1, k1⟩
  have r1 : Reads w1 w1.heap.size 2 _ n (l.flatMap Piece.cells) := b1.reads (by rw [flatMap_len _ 2 (fun _ => rfl), hn])
  go_wp2_with fail
  refine (specPiecesLength_c _ _ _ _ _ hn (by omega) r1).mono ?_
  rintro e w2 ⟨rfl, hb⟩
  have k2 := ext_step k1 k1.size hb
  clear hb
  go_wp2_with fail
  refine (toPieceS_c _ _ _ _ _ hn hbig2 (hr.to k2)).mono ?_
  rintro e w3 ⟨g3, rfl, hg3, b3, hb⟩
  have k3 := ext_step k2 k2.size hb
  clear hb
  have r3 : Reads w3 w3.heap.size 2 _ n (l.flatMap Piece.cells) := b3.reads (by rw [flatMap_len _ 2 (fun _ => rfl), hn])
  go_wp2_with fail
  refine (implPiecesLength_c _ _ _ _ _ hn (by omega) r3).mono ?_
  rintro e w4 ⟨rfl, hb⟩
  have k4 := ext_step k3 k3.size hb
  have r4 := r3.to hb
  clear hb
  go_wp2_with fail
  refine (toPieceS_c _ _ _ _ _ hn hbig2 (hr.to k4)).mono ?_
  rintro e w5 ⟨g5, rfl, hg5, b5, hb⟩
  have k5 := ext_step k4 k4.size hb
  have r5 := r4.to hb
  clear hb
  have s5 : Reads w5 w5.heap.size 2 _ n (l.flatMap Piece.cells) := b5.reads (by rw [flatMap_len _ 2 (fun _ => rfl), hn])
  go_wp2_with fail
  refine (eqPieceS_c _ _ _ _ _ _ _ hn (by omega) r5 s5).mono ?_
  rintro e w6 ⟨rfl, hb⟩
  have k6 := ext_step k5 k5.size hb
  clear hb
  go_wp2
  go_ret
  exact ⟨rfl, k6⟩
end Go.Proofs.Yteajedcoidljhaa
