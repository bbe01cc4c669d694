/- Contract of ReadImage: impl. -/
import Derived.Test.YtifbfmafogmemaaPktQ
import Derived.Test.YtifbfmafogmemaaPktR
import Derived.Test.YtifbfmafogmemaaPktS
import Derived.Test.YtifbfmafogmemaaPktT0
import Derived.Test.YtifbfmafogmemaaRetB
namespace Go.Proofs.Ytifbfmafogmemaa
set_option linter.unusedSimpArgs false
set_option linter.unusedVariables false
open Go.RowKit Go.ChangeShapes Go.WideShapes
set_option maxRecDepth 100000 in
set_option maxHeartbeats 4000000 in
theorem implRead_e0 (w : World) {s : ByteArray} (hE : ∀ u : World, Calls Try.prog 61 #[.string s] u fun e w' => e = .returned (.tuple #[.agg #[.int .i64 0, .int .i64 0, .int .i64 0, .int .i64 0, .string ByteArray.empty], .bool false]) ∧ Below u.heap.size u w') :
    Calls Try.prog 20 #[.string s] w fun e w' => e = .returned (.tuple #[.agg #[.int .i64 0, .int .i64 0, .int .i64 0, .int .i64 0, .int .i64 0, .int .i64 0, .int .i64 0, .int .i64 0, .int .i64 0, .int .i64 0, .int .i64 0, .int .i64 0, .int .i64 0, .int .i64 0, .int .i64 0, .string ByteArray.empty], .int .i64 2]) ∧ Below w.heap.size w w' := by
  go_enter Try.func20, Try.ntmps20
  go_wp2_with fail
  have k0 : Below w.heap.size w (w.alloc (.cells #[.int .i64 0, .int .i64 0, .int .i64 0, .int .i64 0, .int .i64 0, .int .i64 0, .int .i64 0, .int .i64 0, .int .i64 0, .int .i64 0, .int .i64 0, .int .i64 0, .int .i64 0, .int .i64 0, .int .i64 0, .string ⟨#[]⟩] 31)) := by go_grown
  have bl0 : w.heap.size < (w.alloc (.cells #[.int .i64 0, .int .i64 0, .int .i64 0, .int .i64 0, .int .i64 0, .int .i64 0, .int .i64 0, .int .i64 0, .int .i64 0, .int .i64 0, .int .i64 0, .int .i64 0, .int .i64 0, .int .i64 0, .int .i64 0, .string ⟨#[]⟩] 31)).heap.size := by go_size
  have hk0 : Blk (w.alloc (.cells #[.int .i64 0, .int .i64 0, .int .i64 0, .int .i64 0, .int .i64 0, .int .i64 0, .int .i64 0, .int .i64 0, .int .i64 0, .int .i64 0, .int .i64 0, .int .i64 0, .int .i64 0, .int .i64 0, .int .i64 0, .string ⟨#[]⟩] 31)) (w.heap.size) 31 [.int .i64 0, .int .i64 0, .int .i64 0, .int .i64 0, .int .i64 0, .int .i64 0, .int .i64 0, .int .i64 0, .int .i64 0, .int .i64 0, .int .i64 0, .int .i64 0, .int .i64 0, .int .i64 0, .int .i64 0, .string ⟨#[]⟩] := by simpa using Blk.new w 31 [.int .i64 0, .int .i64 0, .int .i64 0, .int .i64 0, .int .i64 0, .int .i64 0, .int .i64 0, .int .i64 0, .int .i64 0, .int .i64 0, .int .i64 0, .int .i64 0, .int .i64 0, .int .i64 0, .int .i64 0, .string ⟨#[]⟩]
  have p0 := k0.size
  generalize hW0 : (w.alloc (.cells #[.int .i64 0, .int .i64 0, .int .i64 0, .int .i64 0, .int .i64 0, .int .i64 0, .int .i64 0, .int .i64 0, .int .i64 0, .int .i64 0, .int .i64 0, .int .i64 0, .int .i64 0, .int .i64 0, .int .i64 0, .string ⟨#[]⟩] 31)) = w0 at *
  clear hW0
  refine (hE _).mono ?_
  rintro e w1 ⟨rfl, hb⟩
  have k1 : Below w.heap.size w w1 := ext_step k0 (by omega) hb
  have p1 := hb.size
  replace hk0 := hk0.ext hb
  have bl0 := Nat.lt_of_lt_of_le bl0 hb.size
  clear hb
  go_upto_region 3 with fail
  obtain ⟨w2, hW0⟩ : ∃ W, W = (w1.alloc (.cells #[.int .i64 0, .int .i64 0, .int .i64 0, .int .i64 0, .string ByteArray.empty] 99)) := ⟨_, rfl⟩
  have hb : Below w1.heap.size w1 w2 := by rw [hW0]; go_grown
  have bl1 : w1.heap.size < w2.heap.size := by rw [hW0]; go_size
  have hk1 : Blk w2 (w1.heap.size) 99 [.int .i64 0, .int .i64 0, .int .i64 0, .int .i64 0, .string ByteArray.empty] := by rw [hW0]; exact Blk.new _ _ _
  rw [← hW0]
  clear hW0
  have k2 := ext_step k1 (by omega) hb
  have p2 := hb.size
  replace hk0 := hk0.ext hb
  have bl0 := Nat.lt_of_lt_of_le bl0 hb.size
  clear hb
  have bx0_0 := hk0.at_ 0 _ rfl
  have fz0_0 := hk0.frozen 0
  have bx0_1 := hk0.at_ 1 _ rfl
  have fz0_1 := hk0.frozen 1
  have bx0_2 := hk0.at_ 2 _ rfl
  have fz0_2 := hk0.frozen 2
  have bx0_3 := hk0.at_ 3 _ rfl
  have fz0_3 := hk0.frozen 3
  have bx0_4 := hk0.at_ 4 _ rfl
  have fz0_4 := hk0.frozen 4
  have bx0_5 := hk0.at_ 5 _ rfl
  have fz0_5 := hk0.frozen 5
  have bx0_6 := hk0.at_ 6 _ rfl
  have fz0_6 := hk0.frozen 6
  have bx0_7 := hk0.at_ 7 _ rfl
  have fz0_7 := hk0.frozen 7
  have bx0_8 := hk0.at_ 8 _ rfl
  have fz0_8 := hk0.frozen 8
  have bx0_9 := hk0.at_ 9 _ rfl
  have fz0_9 := hk0.frozen 9
  have bx0_10 := hk0.at_ 10 _ rfl
  have fz0_10 := hk0.frozen 10
  have bx0_11 := hk0.at_ 11 _ rfl
  have fz0_11 := hk0.frozen 11
  have bx0_12 := hk0.at_ 12 _ rfl
  have fz0_12 := hk0.frozen 12
  have bx0_13 := hk0.at_ 13 _ rfl
  have fz0_13 := hk0.frozen 13
  have bx0_14 := hk0.at_ 14 _ rfl
  have fz0_14 := hk0.frozen 14
  have bx0_15 := hk0.at_ 15 _ rfl
  have fz0_15 := hk0.frozen 15
  go_wp2_with fail
  clear  hk1
  have hcc := ChgA.refl (w.heap.size) w2
  obtain ⟨w3_0, hW0⟩ : ∃ W, W = w2.setCell ⟨w.heap.size, 0, none⟩ (.int .i64 0) := ⟨_, rfl⟩
  replace hcc : ChgA (w.heap.size) w2 w3_0 := by rw [hW0]; exact hcc.set _ _
  replace hk0 : Blk w3_0 (w.heap.size) 31 [.int .i64 0, .int .i64 0, .int .i64 0, .int .i64 0, .int .i64 0, .int .i64 0, .int .i64 0, .int .i64 0, .int .i64 0, .int .i64 0, .int .i64 0, .int .i64 0, .int .i64 0, .int .i64 0, .int .i64 0, .string ⟨#[]⟩] := by rw [hW0]; exact hk0.set_ 0 _
  rw [← hW0]
  clear hW0
  obtain ⟨w3_1, hW0⟩ : ∃ W, W = w3_0.setCell ⟨w.heap.size, 1, none⟩ (.int .i64 0) := ⟨_, rfl⟩
  replace hcc : ChgA (w.heap.size) w2 w3_1 := by rw [hW0]; exact hcc.set _ _
  replace hk0 : Blk w3_1 (w.heap.size) 31 [.int .i64 0, .int .i64 0, .int .i64 0, .int .i64 0, .int .i64 0, .int .i64 0, .int .i64 0, .int .i64 0, .int .i64 0, .int .i64 0, .int .i64 0, .int .i64 0, .int .i64 0, .int .i64 0, .int .i64 0, .string ⟨#[]⟩] := by rw [hW0]; exact hk0.set_ 1 _
  rw [← hW0]
  clear hW0
  obtain ⟨w3_2, hW0⟩ : ∃ W, W = w3_1.setCell ⟨w.heap.size, 2, none⟩ (.int .i64 0) := ⟨_, rfl⟩
  replace hcc : ChgA (w.heap.size) w2 w3_2 := by rw [hW0]; exact hcc.set _ _
  replace hk0 : Blk w3_2 (w.heap.size) 31 [.int .i64 0, .int .i64 0, .int .i64 0, .int .i64 0, .int .i64 0, .int .i64 0, .int .i64 0, .int .i64 0, .int .i64 0, .int .i64 0, .int .i64 0, .int .i64 0, .int .i64 0, .int .i64 0, .int .i64 0, .string ⟨#[]⟩] := by rw [hW0]; exact hk0.set_ 2 _
  rw [← hW0]
  clear hW0
  obtain ⟨w3_3, hW0⟩ : ∃ W, W = w3_2.setCell ⟨w.heap.size, 3, none⟩ (.int .i64 0) := ⟨_, rfl⟩
  replace hcc : ChgA (w.heap.size) w2 w3_3 := by rw [hW0]; exact hcc.set _ _
  replace hk0 : Blk w3_3 (w.heap.size) 31 [.int .i64 0, .int .i64 0, .int .i64 0, .int .i64 0, .int .i64 0, .int .i64 0, .int .i64 0, .int .i64 0, .int .i64 0, .int .i64 0, .int .i64 0, .int .i64 0, .int .i64 0, .int .i64 0, .int .i64 0, .string ⟨#[]⟩] := by rw [hW0]; exact hk0.set_ 3 _
  rw [← hW0]
  clear hW0
  obtain ⟨w3_4, hW0⟩ : ∃ W, W = w3_3.setCell ⟨w.heap.size, 4, none⟩ (.int .i64 0) := ⟨_, rfl⟩
  replace hcc : ChgA (w.heap.size) w2 w3_4 := by rw [hW0]; exact hcc.set _ _
  replace hk0 : Blk w3_4 (w.heap.size) 31 [.int .i64 0, .int .i64 0, .int .i64 0, .int .i64 0, .int .i64 0, .int .i64 0, .int .i64 0, .int .i64 0, .int .i64 0, .int .i64 0, .int .i64 0, .int .i64 0, .int .i64 0, .int .i64 0, .int .i64 0, .string ⟨#[]⟩] := by rw [hW0]; exact hk0.set_ 4 _
  rw [← hW0]
  clear hW0
  obtain ⟨w3_5, hW0⟩ : ∃ W, W = w3_4.setCell ⟨w.heap.size, 5, none⟩ (.int .i64 0) := ⟨_, rfl⟩
  replace hcc : ChgA (w.heap.size) w2 w3_5 := by rw [hW0]; exact hcc.set _ _
  replace hk0 : Blk w3_5 (w.heap.size) 31 [.int .i64 0, .int .i64 0, .int .i64 0, .int .i64 0, .int .i64 0, .int .i64 0, .int .i64 0, .int .i64 0, .int .i64 0, .int .i64 0, .int .i64 0, .int .i64 0, .int .i64 0, .int .i64 0, .int .i64 0, .string ⟨#[]⟩] := by rw [hW0]; exact hk0.set_ 5 _
  rw [← hW0]
  clear hW0
  obtain ⟨w3_6, hW0⟩ : ∃ W, W = w3_5.setCell ⟨w.heap.size, 6, none⟩ (.int .i64 0) := ⟨_, rfl⟩
  replace hcc : ChgA (w.heap.size) w2 w3_6 := by rw [hW0]; exact hcc.set _ _
  replace hk0 : Blk w3_6 (w.heap.size) 31 [.int .i64 0, .int .i64 0, .int .i64 0, .int .i64 0, .int .i64 0, .int .i64 0, .int .i64 0, .int .i64 0, .int .i64 0, .int .i64 0, .int .i64 0, .int .i64 0, .int .i64 0, .int .i64 0, .int .i64 0, .string ⟨#[]⟩] := by rw [hW0]; exact hk0.set_ 6 _
  rw [← hW0]
  clear hW0
  obtain ⟨w3_7, hW0⟩ : ∃ W, W = w3_6.setCell ⟨w.heap.size, 7, none⟩ (.int .i64 0) := ⟨_, rfl⟩
  replace hcc : ChgA (w.heap.size) w2 w3_7 := by rw [hW0]; exact hcc.set _ _
  replace hk0 : Blk w3_7 (w.heap.size) 31 [.int .i64 0, .int .i64 0, .int .i64 0, .int .i64 0, .int .i64 0, .int .i64 0, .int .i64 0, .int .i64 0, .int .i64 0, .int .i64 0, .int .i64 0, .int .i64 0, .int .i64 0, .int .i64 0, .int .i64 0, .string ⟨#[]⟩] := by rw [hW0]; exact hk0.set_ 7 _
  rw [← hW0]
  clear hW0
  obtain ⟨w3_8, hW0⟩ : ∃ W, W = w3_7.setCell ⟨w.heap.size, 8, none⟩ (.int .i64 0) := ⟨_, rfl⟩
  replace hcc : ChgA (w.heap.size) w2 w3_8 := by rw [hW0]; exact hcc.set _ _
  replace hk0 : Blk w3_8 (w.heap.size) 31 [.int .i64 0, .int .i64 0, .int .i64 0, .int .i64 0, .int .i64 0, .int .i64 0, .int .i64 0, .int .i64 0, .int .i64 0, .int .i64 0, .int .i64 0, .int .i64 0, .int .i64 0, .int .i64 0, .int .i64 0, .string ⟨#[]⟩] := by rw [hW0]; exact hk0.set_ 8 _
  rw [← hW0]
  clear hW0
  obtain ⟨w3_9, hW0⟩ : ∃ W, W = w3_8.setCell ⟨w.heap.size, 9, none⟩ (.int .i64 0) := ⟨_, rfl⟩
  replace hcc : ChgA (w.heap.size) w2 w3_9 := by rw [hW0]; exact hcc.set _ _
  replace hk0 : Blk w3_9 (w.heap.size) 31 [.int .i64 0, .int .i64 0, .int .i64 0, .int .i64 0, .int .i64 0, .int .i64 0, .int .i64 0, .int .i64 0, .int .i64 0, .int .i64 0, .int .i64 0, .int .i64 0, .int .i64 0, .int .i64 0, .int .i64 0, .string ⟨#[]⟩] := by rw [hW0]; exact hk0.set_ 9 _
  rw [← hW0]
  clear hW0
  obtain ⟨w3_10, hW0⟩ : ∃ W, W = w3_9.setCell ⟨w.heap.size, 10, none⟩ (.int .i64 0) := ⟨_, rfl⟩
  replace hcc : ChgA (w.heap.size) w2 w3_10 := by rw [hW0]; exact hcc.set _ _
  replace hk0 : Blk w3_10 (w.heap.size) 31 [.int .i64 0, .int .i64 0, .int .i64 0, .int .i64 0, .int .i64 0, .int .i64 0, .int .i64 0, .int .i64 0, .int .i64 0, .int .i64 0, .int .i64 0, .int .i64 0, .int .i64 0, .int .i64 0, .int .i64 0, .string ⟨#[]⟩] := by rw [hW0]; exact hk0.set_ 10 _
  rw [← hW0]
  clear hW0
  obtain ⟨w3_11, hW0⟩ : ∃ W, W = w3_10.setCell ⟨w.heap.size, 11, none⟩ (.int .i64 0) := ⟨_, rfl⟩
  replace hcc : ChgA (w.heap.size) w2 w3_11 := by rw [hW0]; exact hcc.set _ _
  replace hk0 : Blk w3_11 (w.heap.size) 31 [.int .i64 0, .int .i64 0, .int .i64 0, .int .i64 0, .int .i64 0, .int .i64 0, .int .i64 0, .int .i64 0, .int .i64 0, .int .i64 0, .int .i64 0, .int .i64 0, .int .i64 0, .int .i64 0, .int .i64 0, .string ⟨#[]⟩] := by rw [hW0]; exact hk0.set_ 11 _
  rw [← hW0]
  clear hW0
  obtain ⟨w3_12, hW0⟩ : ∃ W, W = w3_11.setCell ⟨w.heap.size, 12, none⟩ (.int .i64 0) := ⟨_, rfl⟩
  replace hcc : ChgA (w.heap.size) w2 w3_12 := by rw [hW0]; exact hcc.set _ _
  replace hk0 : Blk w3_12 (w.heap.size) 31 [.int .i64 0, .int .i64 0, .int .i64 0, .int .i64 0, .int .i64 0, .int .i64 0, .int .i64 0, .int .i64 0, .int .i64 0, .int .i64 0, .int .i64 0, .int .i64 0, .int .i64 0, .int .i64 0, .int .i64 0, .string ⟨#[]⟩] := by rw [hW0]; exact hk0.set_ 12 _
  rw [← hW0]
  clear hW0
  obtain ⟨w3_13, hW0⟩ : ∃ W, W = w3_12.setCell ⟨w.heap.size, 13, none⟩ (.int .i64 0) := ⟨_, rfl⟩
  replace hcc : ChgA (w.heap.size) w2 w3_13 := by rw [hW0]; exact hcc.set _ _
  replace hk0 : Blk w3_13 (w.heap.size) 31 [.int .i64 0, .int .i64 0, .int .i64 0, .int .i64 0, .int .i64 0, .int .i64 0, .int .i64 0, .int .i64 0, .int .i64 0, .int .i64 0, .int .i64 0, .int .i64 0, .int .i64 0, .int .i64 0, .int .i64 0, .string ⟨#[]⟩] := by rw [hW0]; exact hk0.set_ 13 _
  rw [← hW0]
  clear hW0
  obtain ⟨w3_14, hW0⟩ : ∃ W, W = w3_13.setCell ⟨w.heap.size, 14, none⟩ (.int .i64 0) := ⟨_, rfl⟩
  replace hcc : ChgA (w.heap.size) w2 w3_14 := by rw [hW0]; exact hcc.set _ _
  replace hk0 : Blk w3_14 (w.heap.size) 31 [.int .i64 0, .int .i64 0, .int .i64 0, .int .i64 0, .int .i64 0, .int .i64 0, .int .i64 0, .int .i64 0, .int .i64 0, .int .i64 0, .int .i64 0, .int .i64 0, .int .i64 0, .int .i64 0, .int .i64 0, .string ⟨#[]⟩] := by rw [hW0]; exact hk0.set_ 14 _
  rw [← hW0]
  clear hW0
  obtain ⟨w3, hW0⟩ : ∃ W, W = w3_14.setCell ⟨w.heap.size, 15, none⟩ (.string ⟨#[]⟩) := ⟨_, rfl⟩
  replace hcc : ChgA (w.heap.size) w2 w3 := by rw [hW0]; exact hcc.set _ _
  replace hk0 : Blk w3 (w.heap.size) 31 [.int .i64 0, .int .i64 0, .int .i64 0, .int .i64 0, .int .i64 0, .int .i64 0, .int .i64 0, .int .i64 0, .int .i64 0, .int .i64 0, .int .i64 0, .int .i64 0, .int .i64 0, .int .i64 0, .int .i64 0, .string ⟨#[]⟩] := by rw [hW0]; exact hk0.set_ 15 _
  rw [← hW0]
  clear hW0
  have hc := hcc
  have k3 := hc.below (by omega) k2
  have p3 := hc.size
  replace bl0 := Nat.lt_of_lt_of_le bl0 (Nat.le_of_eq p3.symm)
  replace bl1 := Nat.lt_of_lt_of_le bl1 (Nat.le_of_eq p3.symm)
  clear hc hcc
  clear bx0_0 fz0_0 bx0_1 fz0_1 bx0_2 fz0_2 bx0_3 fz0_3 bx0_4 fz0_4 bx0_5 fz0_5 bx0_6 fz0_6 bx0_7 fz0_7 bx0_8 fz0_8 bx0_9 fz0_9 bx0_10 fz0_10 bx0_11 fz0_11 bx0_12 fz0_12 bx0_13 fz0_13 bx0_14 fz0_14 bx0_15 fz0_15
  have hv := loadVar_blk (P := Try.prog) hk0 (n := 16) rfl (by simp [go_sem]) (by simp [go_sem])
  refine bodyPost_ret (v := .tuple #[.agg #[.int .i64 0, .int .i64 0, .int .i64 0, .int .i64 0, .int .i64 0, .int .i64 0, .int .i64 0, .int .i64 0, .int .i64 0, .int .i64 0, .int .i64 0, .int .i64 0, .int .i64 0, .int .i64 0, .int .i64 0, .string ⟨#[]⟩], .int .i64 2]) (by simp [results, Try.results20, asAddr, Result.andThen, hv]) rfl ?_
  exact ⟨rfl, k3⟩
set_option maxRecDepth 100000 in
set_option maxHeartbeats 4000000 in
theorem implRead_e1 (w : World) {s : ByteArray} {D S V T : Int} {B : ByteArray} (hE : ∀ u : World, Calls Try.prog 61 #[.string s] u fun e w' => e = .returned (.tuple #[.agg #[.int .i64 D, .int .i64 S, .int .i64 V, .int .i64 T, .string B], .bool true]) ∧ Below u.heap.size u w') (hty : ¬ T = 2048) :
    Calls Try.prog 20 #[.string s] w fun e w' => e = .returned (.tuple #[.agg #[.int .i64 0, .int .i64 0, .int .i64 0, .int .i64 0, .int .i64 0, .int .i64 0, .int .i64 0, .int .i64 0, .int .i64 0, .int .i64 0, .int .i64 0, .int .i64 0, .int .i64 0, .int .i64 0, .int .i64 0, .string ByteArray.empty], .int .i64 2]) ∧ Below w.heap.size w w' := by
  go_enter Try.func20, Try.ntmps20
  go_wp2_with fail
  have k0 : Below w.heap.size w (w.alloc (.cells #[.int .i64 0, .int .i64 0, .int .i64 0, .int .i64 0, .int .i64 0, .int .i64 0, .int .i64 0, .int .i64 0, .int .i64 0, .int .i64 0, .int .i64 0, .int .i64 0, .int .i64 0, .int .i64 0, .int .i64 0, .string ⟨#[]⟩] 31)) := by go_grown
  have bl0 : w.heap.size < (w.alloc (.cells #[.int .i64 0, .int .i64 0, .int .i64 0, .int .i64 0, .int .i64 0, .int .i64 0, .int .i64 0, .int .i64 0, .int .i64 0, .int .i64 0, .int .i64 0, .int .i64 0, .int .i64 0, .int .i64 0, .int .i64 0, .string ⟨#[]⟩] 31)).heap.size := by go_size
  have hk0 : Blk (w.alloc (.cells #[.int .i64 0, .int .i64 0, .int .i64 0, .int .i64 0, .int .i64 0, .int .i64 0, .int .i64 0, .int .i64 0, .int .i64 0, .int .i64 0, .int .i64 0, .int .i64 0, .int .i64 0, .int .i64 0, .int .i64 0, .string ⟨#[]⟩] 31)) (w.heap.size) 31 [.int .i64 0, .int .i64 0, .int .i64 0, .int .i64 0, .int .i64 0, .int .i64 0, .int .i64 0, .int .i64 0, .int .i64 0, .int .i64 0, .int .i64 0, .int .i64 0, .int .i64 0, .int .i64 0, .int .i64 0, .string ⟨#[]⟩] := by simpa using Blk.new w 31 [.int .i64 0, .int .i64 0, .int .i64 0, .int .i64 0, .int .i64 0, .int .i64 0, .int .i64 0, .int .i64 0, .int .i64 0, .int .i64 0, .int .i64 0, .int .i64 0, .int .i64 0, .int .i64 0, .int .i64 0, .string ⟨#[]⟩]
  have p0 := k0.size
  generalize hW0 : (w.alloc (.cells #[.int .i64 0, .int .i64 0, .int .i64 0, .int .i64 0, .int .i64 0, .int .i64 0, .int .i64 0, .int .i64 0, .int .i64 0, .int .i64 0, .int .i64 0, .int .i64 0, .int .i64 0, .int .i64 0, .int .i64 0, .string ⟨#[]⟩] 31)) = w0 at *
  clear hW0
  refine (hE _).mono ?_
  rintro e w1 ⟨rfl, hb⟩
  have k1 : Below w.heap.size w w1 := ext_step k0 (by omega) hb
  have p1 := hb.size
  replace hk0 := hk0.ext hb
  have bl0 := Nat.lt_of_lt_of_le bl0 hb.size
  clear hb
  go_upto_region 3 with fail
  obtain ⟨w2, hW0⟩ : ∃ W, W = (w1.alloc (.cells #[.int .i64 D, .int .i64 S, .int .i64 V, .int .i64 T, .string B] 99)) := ⟨_, rfl⟩
  have hb : Below w1.heap.size w1 w2 := by rw [hW0]; go_grown
  have bl1 : w1.heap.size < w2.heap.size := by rw [hW0]; go_size
  have hk1 : Blk w2 (w1.heap.size) 99 [.int .i64 D, .int .i64 S, .int .i64 V, .int .i64 T, .string B] := by rw [hW0]; exact Blk.new _ _ _
  rw [← hW0]
  clear hW0
  have k2 := ext_step k1 (by omega) hb
  have p2 := hb.size
  replace hk0 := hk0.ext hb
  have bl0 := Nat.lt_of_lt_of_le bl0 hb.size
  clear hb
  have bx0_0 := hk0.at_ 0 _ rfl
  have fz0_0 := hk0.frozen 0
  have bx0_1 := hk0.at_ 1 _ rfl
  have fz0_1 := hk0.frozen 1
  have bx0_2 := hk0.at_ 2 _ rfl
  have fz0_2 := hk0.frozen 2
  have bx0_3 := hk0.at_ 3 _ rfl
  have fz0_3 := hk0.frozen 3
  have bx0_4 := hk0.at_ 4 _ rfl
  have fz0_4 := hk0.frozen 4
  have bx0_5 := hk0.at_ 5 _ rfl
  have fz0_5 := hk0.frozen 5
  have bx0_6 := hk0.at_ 6 _ rfl
  have fz0_6 := hk0.frozen 6
  have bx0_7 := hk0.at_ 7 _ rfl
  have fz0_7 := hk0.frozen 7
  have bx0_8 := hk0.at_ 8 _ rfl
  have fz0_8 := hk0.frozen 8
  have bx0_9 := hk0.at_ 9 _ rfl
  have fz0_9 := hk0.frozen 9
  have bx0_10 := hk0.at_ 10 _ rfl
  have fz0_10 := hk0.frozen 10
  have bx0_11 := hk0.at_ 11 _ rfl
  have fz0_11 := hk0.frozen 11
  have bx0_12 := hk0.at_ 12 _ rfl
  have fz0_12 := hk0.frozen 12
  have bx0_13 := hk0.at_ 13 _ rfl
  have fz0_13 := hk0.frozen 13
  have bx0_14 := hk0.at_ 14 _ rfl
  have fz0_14 := hk0.frozen 14
  have bx0_15 := hk0.at_ 15 _ rfl
  have fz0_15 := hk0.frozen 15
  go_wp2_with fail
  clear  hk1
  have hcc := ChgA.refl (w.heap.size) w2
  obtain ⟨w3_0, hW0⟩ : ∃ W, W = w2.setCell ⟨w.heap.size, 0, none⟩ (.int .i64 0) := ⟨_, rfl⟩
  replace hcc : ChgA (w.heap.size) w2 w3_0 := by rw [hW0]; exact hcc.set _ _
  replace hk0 : Blk w3_0 (w.heap.size) 31 [.int .i64 0, .int .i64 0, .int .i64 0, .int .i64 0, .int .i64 0, .int .i64 0, .int .i64 0, .int .i64 0, .int .i64 0, .int .i64 0, .int .i64 0, .int .i64 0, .int .i64 0, .int .i64 0, .int .i64 0, .string ⟨#[]⟩] := by rw [hW0]; exact hk0.set_ 0 _
  rw [← hW0]
  clear hW0
  obtain ⟨w3_1, hW0⟩ : ∃ W, W = w3_0.setCell ⟨w.heap.size, 1, none⟩ (.int .i64 0) := ⟨_, rfl⟩
  replace hcc : ChgA (w.heap.size) w2 w3_1 := by rw [hW0]; exact hcc.set _ _
  replace hk0 : Blk w3_1 (w.heap.size) 31 [.int .i64 0, .int .i64 0, .int .i64 0, .int .i64 0, .int .i64 0, .int .i64 0, .int .i64 0, .int .i64 0, .int .i64 0, .int .i64 0, .int .i64 0, .int .i64 0, .int .i64 0, .int .i64 0, .int .i64 0, .string ⟨#[]⟩] := by rw [hW0]; exact hk0.set_ 1 _
  rw [← hW0]
  clear hW0
  obtain ⟨w3_2, hW0⟩ : ∃ W, W = w3_1.setCell ⟨w.heap.size, 2, none⟩ (.int .i64 0) := ⟨_, rfl⟩
  replace hcc : ChgA (w.heap.size) w2 w3_2 := by rw [hW0]; exact hcc.set _ _
  replace hk0 : Blk w3_2 (w.heap.size) 31 [.int .i64 0, .int .i64 0, .int .i64 0, .int .i64 0, .int .i64 0, .int .i64 0, .int .i64 0, .int .i64 0, .int .i64 0, .int .i64 0, .int .i64 0, .int .i64 0, .int .i64 0, .int .i64 0, .int .i64 0, .string ⟨#[]⟩] := by rw [hW0]; exact hk0.set_ 2 _
  rw [← hW0]
  clear hW0
  obtain ⟨w3_3, hW0⟩ : ∃ W, W = w3_2.setCell ⟨w.heap.size, 3, none⟩ (.int .i64 0) := ⟨_, rfl⟩
  replace hcc : ChgA (w.heap.size) w2 w3_3 := by rw [hW0]; exact hcc.set _ _
  replace hk0 : Blk w3_3 (w.heap.size) 31 [.int .i64 0, .int .i64 0, .int .i64 0, .int .i64 0, .int .i64 0, .int .i64 0, .int .i64 0, .int .i64 0, .int .i64 0, .int .i64 0, .int .i64 0, .int .i64 0, .int .i64 0, .int .i64 0, .int .i64 0, .string ⟨#[]⟩] := by rw [hW0]; exact hk0.set_ 3 _
  rw [← hW0]
  clear hW0
  obtain ⟨w3_4, hW0⟩ : ∃ W, W = w3_3.setCell ⟨w.heap.size, 4, none⟩ (.int .i64 0) := ⟨_, rfl⟩
  replace hcc : ChgA (w.heap.size) w2 w3_4 := by rw [hW0]; exact hcc.set _ _
  replace hk0 : Blk w3_4 (w.heap.size) 31 [.int .i64 0, .int .i64 0, .int .i64 0, .int .i64 0, .int .i64 0, .int .i64 0, .int .i64 0, .int .i64 0, .int .i64 0, .int .i64 0, .int .i64 0, .int .i64 0, .int .i64 0, .int .i64 0, .int .i64 0, .string ⟨#[]⟩] := by rw [hW0]; exact hk0.set_ 4 _
  rw [← hW0]
  clear hW0
  obtain ⟨w3_5, hW0⟩ : ∃ W, W = w3_4.setCell ⟨w.heap.size, 5, none⟩ (.int .i64 0) := ⟨_, rfl⟩
  replace hcc : ChgA (w.heap.size) w2 w3_5 := by rw [hW0]; exact hcc.set _ _
  replace hk0 : Blk w3_5 (w.heap.size) 31 [.int .i64 0, .int .i64 0, .int .i64 0, .int .i64 0, .int .i64 0, .int .i64 0, .int .i64 0, .int .i64 0, .int .i64 0, .int .i64 0, .int .i64 0, .int .i64 0, .int .i64 0, .int .i64 0, .int .i64 0, .string ⟨#[]⟩] := by rw [hW0]; exact hk0.set_ 5 _
  rw [← hW0]
  clear hW0
  obtain ⟨w3_6, hW0⟩ : ∃ W, W = w3_5.setCell ⟨w.heap.size, 6, none⟩ (.int .i64 0) := ⟨_, rfl⟩
  replace hcc : ChgA (w.heap.size) w2 w3_6 := by rw [hW0]; exact hcc.set _ _
  replace hk0 : Blk w3_6 (w.heap.size) 31 [.int .i64 0, .int .i64 0, .int .i64 0, .int .i64 0, .int .i64 0, .int .i64 0, .int .i64 0, .int .i64 0, .int .i64 0, .int .i64 0, .int .i64 0, .int .i64 0, .int .i64 0, .int .i64 0, .int .i64 0, .string ⟨#[]⟩] := by rw [hW0]; exact hk0.set_ 6 _
  rw [← hW0]
  clear hW0
  obtain ⟨w3_7, hW0⟩ : ∃ W, W = w3_6.setCell ⟨w.heap.size, 7, none⟩ (.int .i64 0) := ⟨_, rfl⟩
  replace hcc : ChgA (w.heap.size) w2 w3_7 := by rw [hW0]; exact hcc.set _ _
  replace hk0 : Blk w3_7 (w.heap.size) 31 [.int .i64 0, .int .i64 0, .int .i64 0, .int .i64 0, .int .i64 0, .int .i64 0, .int .i64 0, .int .i64 0, .int .i64 0, .int .i64 0, .int .i64 0, .int .i64 0, .int .i64 0, .int .i64 0, .int .i64 0, .string ⟨#[]⟩] := by rw [hW0]; exact hk0.set_ 7 _
  rw [← hW0]
  clear hW0
  obtain ⟨w3_8, hW0⟩ : ∃ W, W = w3_7.setCell ⟨w.heap.size, 8, none⟩ (.int .i64 0) := ⟨_, rfl⟩
  replace hcc : ChgA (w.heap.size) w2 w3_8 := by rw [hW0]; exact hcc.set _ _
  replace hk0 : Blk w3_8 (w.heap.size) 31 [.int .i64 0, .int .i64 0, .int .i64 0, .int .i64 0, .int .i64 0, .int .i64 0, .int .i64 0, .int .i64 0, .int .i64 0, .int .i64 0, .int .i64 0, .int .i64 0, .int .i64 0, .int .i64 0, .int .i64 0, .string ⟨#[]⟩] := by rw [hW0]; exact hk0.set_ 8 _
  rw [← hW0]
  clear hW0
  obtain ⟨w3_9, hW0⟩ : ∃ W, W = w3_8.setCell ⟨w.heap.size, 9, none⟩ (.int .i64 0) := ⟨_, rfl⟩
  replace hcc : ChgA (w.heap.size) w2 w3_9 := by rw [hW0]; exact hcc.set _ _
  replace hk0 : Blk w3_9 (w.heap.size) 31 [.int .i64 0, .int .i64 0, .int .i64 0, .int .i64 0, .int .i64 0, .int .i64 0, .int .i64 0, .int .i64 0, .int .i64 0, .int .i64 0, .int .i64 0, .int .i64 0, .int .i64 0, .int .i64 0, .int .i64 0, .string ⟨#[]⟩] := by rw [hW0]; exact hk0.set_ 9 _
  rw [← hW0]
  clear hW0
  obtain ⟨w3_10, hW0⟩ : ∃ W, W = w3_9.setCell ⟨w.heap.size, 10, none⟩ (.int .i64 0) := ⟨_, rfl⟩
  replace hcc : ChgA (w.heap.size) w2 w3_10 := by rw [hW0]; exact hcc.set _ _
  replace hk0 : Blk w3_10 (w.heap.size) 31 [.int .i64 0, .int .i64 0, .int .i64 0, .int .i64 0, .int .i64 0, .int .i64 0, .int .i64 0, .int .i64 0, .int .i64 0, .int .i64 0, .int .i64 0, .int .i64 0, .int .i64 0, .int .i64 0, .int .i64 0, .string ⟨#[]⟩] := by rw [hW0]; exact hk0.set_ 10 _
  rw [← hW0]
  clear hW0
  obtain ⟨w3_11, hW0⟩ : ∃ W, W = w3_10.setCell ⟨w.heap.size, 11, none⟩ (.int .i64 0) := ⟨_, rfl⟩
  replace hcc : ChgA (w.heap.size) w2 w3_11 := by rw [hW0]; exact hcc.set _ _
  replace hk0 : Blk w3_11 (w.heap.size) 31 [.int .i64 0, .int .i64 0, .int .i64 0, .int .i64 0, .int .i64 0, .int .i64 0, .int .i64 0, .int .i64 0, .int .i64 0, .int .i64 0, .int .i64 0, .int .i64 0, .int .i64 0, .int .i64 0, .int .i64 0, .string ⟨#[]⟩] := by rw [hW0]; exact hk0.set_ 11 _
  rw [← hW0]
  clear hW0
  obtain ⟨w3_12, hW0⟩ : ∃ W, W = w3_11.setCell ⟨w.heap.size, 12, none⟩ (.int .i64 0) := ⟨_, rfl⟩
  replace hcc : ChgA (w.heap.size) w2 w3_12 := by rw [hW0]; exact hcc.set _ _
  replace hk0 : Blk w3_12 (w.heap.size) 31 [.int .i64 0, .int .i64 0, .int .i64 0, .int .i64 0, .int .i64 0, .int .i64 0, .int .i64 0, .int .i64 0, .int .i64 0, .int .i64 0, .int .i64 0, .int .i64 0, .int .i64 0, .int .i64 0, .int .i64 0, .string ⟨#[]⟩] := by rw [hW0]; exact hk0.set_ 12 _
  rw [← hW0]
  clear hW0
  obtain ⟨w3_13, hW0⟩ : ∃ W, W = w3_12.setCell ⟨w.heap.size, 13, none⟩ (.int .i64 0) := ⟨_, rfl⟩
  replace hcc : ChgA (w.heap.size) w2 w3_13 := by rw [hW0]; exact hcc.set _ _
  replace hk0 : Blk w3_13 (w.heap.size) 31 [.int .i64 0, .int .i64 0, .int .i64 0, .int .i64 0, .int .i64 0, .int .i64 0, .int .i64 0, .int .i64 0, .int .i64 0, .int .i64 0, .int .i64 0, .int .i64 0, .int .i64 0, .int .i64 0, .int .i64 0, .string ⟨#[]⟩] := by rw [hW0]; exact hk0.set_ 13 _
  rw [← hW0]
  clear hW0
  obtain ⟨w3_14, hW0⟩ : ∃ W, W = w3_13.setCell ⟨w.heap.size, 14, none⟩ (.int .i64 0) := ⟨_, rfl⟩
  replace hcc : ChgA (w.heap.size) w2 w3_14 := by rw [hW0]; exact hcc.set _ _
  replace hk0 : Blk w3_14 (w.heap.size) 31 [.int .i64 0, .int .i64 0, .int .i64 0, .int .i64 0, .int .i64 0, .int .i64 0, .int .i64 0, .int .i64 0, .int .i64 0, .int .i64 0, .int .i64 0, .int .i64 0, .int .i64 0, .int .i64 0, .int .i64 0, .string ⟨#[]⟩] := by rw [hW0]; exact hk0.set_ 14 _
  rw [← hW0]
  clear hW0
  obtain ⟨w3, hW0⟩ : ∃ W, W = w3_14.setCell ⟨w.heap.size, 15, none⟩ (.string ⟨#[]⟩) := ⟨_, rfl⟩
  replace hcc : ChgA (w.heap.size) w2 w3 := by rw [hW0]; exact hcc.set _ _
  replace hk0 : Blk w3 (w.heap.size) 31 [.int .i64 0, .int .i64 0, .int .i64 0, .int .i64 0, .int .i64 0, .int .i64 0, .int .i64 0, .int .i64 0, .int .i64 0, .int .i64 0, .int .i64 0, .int .i64 0, .int .i64 0, .int .i64 0, .int .i64 0, .string ⟨#[]⟩] := by rw [hW0]; exact hk0.set_ 15 _
  rw [← hW0]
  clear hW0
  have hc := hcc
  have k3 := hc.below (by omega) k2
  have p3 := hc.size
  replace bl0 := Nat.lt_of_lt_of_le bl0 (Nat.le_of_eq p3.symm)
  replace bl1 := Nat.lt_of_lt_of_le bl1 (Nat.le_of_eq p3.symm)
  clear hc hcc
  clear bx0_0 fz0_0 bx0_1 fz0_1 bx0_2 fz0_2 bx0_3 fz0_3 bx0_4 fz0_4 bx0_5 fz0_5 bx0_6 fz0_6 bx0_7 fz0_7 bx0_8 fz0_8 bx0_9 fz0_9 bx0_10 fz0_10 bx0_11 fz0_11 bx0_12 fz0_12 bx0_13 fz0_13 bx0_14 fz0_14 bx0_15 fz0_15
  have hv := loadVar_blk (P := Try.prog) hk0 (n := 16) rfl (by simp [go_sem]) (by simp [go_sem])
  refine bodyPost_ret (v := .tuple #[.agg #[.int .i64 0, .int .i64 0, .int .i64 0, .int .i64 0, .int .i64 0, .int .i64 0, .int .i64 0, .int .i64 0, .int .i64 0, .int .i64 0, .int .i64 0, .int .i64 0, .int .i64 0, .int .i64 0, .int .i64 0, .string ⟨#[]⟩], .int .i64 2]) (by simp [results, Try.results20, asAddr, Result.andThen, hv]) rfl ?_
  exact ⟨rfl, k3⟩
set_option maxRecDepth 100000 in
set_option maxHeartbeats 4000000 in
theorem implRead_i (w : World) {s : ByteArray} {D S V : Int} {B : ByteArray} (hE : ∀ u : World, Calls Try.prog 61 #[.string s] u fun e w' => e = .returned (.tuple #[.agg #[.int .i64 D, .int .i64 S, .int .i64 V, .int .i64 2048, .string B], .bool true]) ∧ Below u.heap.size u w') (hI : ∀ u : World, Calls Try.prog 74 #[.string B] u fun e w' => e = .returned (.tuple #[.agg #[.int .i64 0, .int .i64 0, .int .i64 0, .int .i64 0, .int .i64 0, .int .i64 0, .string ByteArray.empty], .bool false]) ∧ Below u.heap.size u w') :
    Calls Try.prog 20 #[.string s] w fun e w' => e = .returned (.tuple #[.agg #[.int .i64 0, .int .i64 0, .int .i64 0, .int .i64 0, .int .i64 0, .int .i64 0, .int .i64 0, .int .i64 0, .int .i64 0, .int .i64 0, .int .i64 0, .int .i64 0, .int .i64 0, .int .i64 0, .int .i64 0, .string ByteArray.empty], .int .i64 3]) ∧ Below w.heap.size w w' := by
  go_enter Try.func20, Try.ntmps20
  go_wp2_with fail
  have k0 : Below w.heap.size w (w.alloc (.cells #[.int .i64 0, .int .i64 0, .int .i64 0, .int .i64 0, .int .i64 0, .int .i64 0, .int .i64 0, .int .i64 0, .int .i64 0, .int .i64 0, .int .i64 0, .int .i64 0, .int .i64 0, .int .i64 0, .int .i64 0, .string ⟨#[]⟩] 31)) := by go_grown
  have bl0 : w.heap.size < (w.alloc (.cells #[.int .i64 0, .int .i64 0, .int .i64 0, .int .i64 0, .int .i64 0, .int .i64 0, .int .i64 0, .int .i64 0, .int .i64 0, .int .i64 0, .int .i64 0, .int .i64 0, .int .i64 0, .int .i64 0, .int .i64 0, .string ⟨#[]⟩] 31)).heap.size := by go_size
  have hk0 : Blk (w.alloc (.cells #[.int .i64 0, .int .i64 0, .int .i64 0, .int .i64 0, .int .i64 0, .int .i64 0, .int .i64 0, .int .i64 0, .int .i64 0, .int .i64 0, .int .i64 0, .int .i64 0, .int .i64 0, .int .i64 0, .int .i64 0, .string ⟨#[]⟩] 31)) (w.heap.size) 31 [.int .i64 0, .int .i64 0, .int .i64 0, .int .i64 0, .int .i64 0, .int .i64 0, .int .i64 0, .int .i64 0, .int .i64 0, .int .i64 0, .int .i64 0, .int .i64 0, .int .i64 0, .int .i64 0, .int .i64 0, .string ⟨#[]⟩] := by simpa using Blk.new w 31 [.int .i64 0, .int .i64 0, .int .i64 0, .int .i64 0, .int .i64 0, .int .i64 0, .int .i64 0, .int .i64 0, .int .i64 0, .int .i64 0, .int .i64 0, .int .i64 0, .int .i64 0, .int .i64 0, .int .i64 0, .string ⟨#[]⟩]
  have p0 := k0.size
  generalize hW0 : (w.alloc (.cells #[.int .i64 0, .int .i64 0, .int .i64 0, .int .i64 0, .int .i64 0, .int .i64 0, .int .i64 0, .int .i64 0, .int .i64 0, .int .i64 0, .int .i64 0, .int .i64 0, .int .i64 0, .int .i64 0, .int .i64 0, .string ⟨#[]⟩] 31)) = w0 at *
  clear hW0
  refine (hE _).mono ?_
  rintro e w1 ⟨rfl, hb⟩
  have k1 : Below w.heap.size w w1 := ext_step k0 (by omega) hb
  have p1 := hb.size
  replace hk0 := hk0.ext hb
  have bl0 := Nat.lt_of_lt_of_le bl0 hb.size
  clear hb
  go_wp2_with fail
  obtain ⟨w2, hW0⟩ : ∃ W, W = (w1.alloc (.cells #[.int .i64 D, .int .i64 S, .int .i64 V, .int .i64 2048, .string B] 99)) := ⟨_, rfl⟩
  have hb : Below w1.heap.size w1 w2 := by rw [hW0]; go_grown
  have bl1 : w1.heap.size < w2.heap.size := by rw [hW0]; go_size
  have hk1 : Blk w2 (w1.heap.size) 99 [.int .i64 D, .int .i64 S, .int .i64 V, .int .i64 2048, .string B] := by rw [hW0]; exact Blk.new _ _ _
  rw [← hW0]
  clear hW0
  have k2 := ext_step k1 (by omega) hb
  have p2 := hb.size
  replace hk0 := hk0.ext hb
  have bl0 := Nat.lt_of_lt_of_le bl0 hb.size
  clear hb
  refine (hI _).mono ?_
  rintro e w3 ⟨rfl, hb⟩
  have k3 : Below w.heap.size w w3 := ext_step k2 (by omega) hb
  have p3 := hb.size
  replace hk0 := hk0.ext hb
  replace hk1 := hk1.ext hb
  have bl0 := Nat.lt_of_lt_of_le bl0 hb.size
  have bl1 := Nat.lt_of_lt_of_le bl1 hb.size
  clear hb
  clear  hk1
  go_upto_region 6 with fail
  obtain ⟨w4, hW0⟩ : ∃ W, W = (w3.alloc (.cells #[.int .i64 0, .int .i64 0, .int .i64 0, .int .i64 0, .int .i64 0, .int .i64 0, .string ByteArray.empty] 110)) := ⟨_, rfl⟩
  have hb : Below w3.heap.size w3 w4 := by rw [hW0]; go_grown
  have bl2 : w3.heap.size < w4.heap.size := by rw [hW0]; go_size
  have hk2 : Blk w4 (w3.heap.size) 110 [.int .i64 0, .int .i64 0, .int .i64 0, .int .i64 0, .int .i64 0, .int .i64 0, .string ByteArray.empty] := by rw [hW0]; exact Blk.new _ _ _
  rw [← hW0]
  clear hW0
  have k4 := ext_step k3 (by omega) hb
  have p4 := hb.size
  replace hk0 := hk0.ext hb
  have bl0 := Nat.lt_of_lt_of_le bl0 hb.size
  have bl1 := Nat.lt_of_lt_of_le bl1 hb.size
  clear hb
  have bx0_0 := hk0.at_ 0 _ rfl
  have fz0_0 := hk0.frozen 0
  have bx0_1 := hk0.at_ 1 _ rfl
  have fz0_1 := hk0.frozen 1
  have bx0_2 := hk0.at_ 2 _ rfl
  have fz0_2 := hk0.frozen 2
  have bx0_3 := hk0.at_ 3 _ rfl
  have fz0_3 := hk0.frozen 3
  have bx0_4 := hk0.at_ 4 _ rfl
  have fz0_4 := hk0.frozen 4
  have bx0_5 := hk0.at_ 5 _ rfl
  have fz0_5 := hk0.frozen 5
  have bx0_6 := hk0.at_ 6 _ rfl
  have fz0_6 := hk0.frozen 6
  have bx0_7 := hk0.at_ 7 _ rfl
  have fz0_7 := hk0.frozen 7
  have bx0_8 := hk0.at_ 8 _ rfl
  have fz0_8 := hk0.frozen 8
  have bx0_9 := hk0.at_ 9 _ rfl
  have fz0_9 := hk0.frozen 9
  have bx0_10 := hk0.at_ 10 _ rfl
  have fz0_10 := hk0.frozen 10
  have bx0_11 := hk0.at_ 11 _ rfl
  have fz0_11 := hk0.frozen 11
  have bx0_12 := hk0.at_ 12 _ rfl
  have fz0_12 := hk0.frozen 12
  have bx0_13 := hk0.at_ 13 _ rfl
  have fz0_13 := hk0.frozen 13
  have bx0_14 := hk0.at_ 14 _ rfl
  have fz0_14 := hk0.frozen 14
  have bx0_15 := hk0.at_ 15 _ rfl
  have fz0_15 := hk0.frozen 15
  go_wp2_with fail
  clear  hk2
  have hcc := ChgA.refl (w.heap.size) w4
  obtain ⟨w5_0, hW0⟩ : ∃ W, W = w4.setCell ⟨w.heap.size, 0, none⟩ (.int .i64 0) := ⟨_, rfl⟩
  replace hcc : ChgA (w.heap.size) w4 w5_0 := by rw [hW0]; exact hcc.set _ _
  replace hk0 : Blk w5_0 (w.heap.size) 31 [.int .i64 0, .int .i64 0, .int .i64 0, .int .i64 0, .int .i64 0, .int .i64 0, .int .i64 0, .int .i64 0, .int .i64 0, .int .i64 0, .int .i64 0, .int .i64 0, .int .i64 0, .int .i64 0, .int .i64 0, .string ⟨#[]⟩] := by rw [hW0]; exact hk0.set_ 0 _
  rw [← hW0]
  clear hW0
  obtain ⟨w5_1, hW0⟩ : ∃ W, W = w5_0.setCell ⟨w.heap.size, 1, none⟩ (.int .i64 0) := ⟨_, rfl⟩
  replace hcc : ChgA (w.heap.size) w4 w5_1 := by rw [hW0]; exact hcc.set _ _
  replace hk0 : Blk w5_1 (w.heap.size) 31 [.int .i64 0, .int .i64 0, .int .i64 0, .int .i64 0, .int .i64 0, .int .i64 0, .int .i64 0, .int .i64 0, .int .i64 0, .int .i64 0, .int .i64 0, .int .i64 0, .int .i64 0, .int .i64 0, .int .i64 0, .string ⟨#[]⟩] := by rw [hW0]; exact hk0.set_ 1 _
  rw [← hW0]
  clear hW0
  obtain ⟨w5_2, hW0⟩ : ∃ W, W = w5_1.setCell ⟨w.heap.size, 2, none⟩ (.int .i64 0) := ⟨_, rfl⟩
  replace hcc : ChgA (w.heap.size) w4 w5_2 := by rw [hW0]; exact hcc.set _ _
  replace hk0 : Blk w5_2 (w.heap.size) 31 [.int .i64 0, .int .i64 0, .int .i64 0, .int .i64 0, .int .i64 0, .int .i64 0, .int .i64 0, .int .i64 0, .int .i64 0, .int .i64 0, .int .i64 0, .int .i64 0, .int .i64 0, .int .i64 0, .int .i64 0, .string ⟨#[]⟩] := by rw [hW0]; exact hk0.set_ 2 _
  rw [← hW0]
  clear hW0
  obtain ⟨w5_3, hW0⟩ : ∃ W, W = w5_2.setCell ⟨w.heap.size, 3, none⟩ (.int .i64 0) := ⟨_, rfl⟩
  replace hcc : ChgA (w.heap.size) w4 w5_3 := by rw [hW0]; exact hcc.set _ _
  replace hk0 : Blk w5_3 (w.heap.size) 31 [.int .i64 0, .int .i64 0, .int .i64 0, .int .i64 0, .int .i64 0, .int .i64 0, .int .i64 0, .int .i64 0, .int .i64 0, .int .i64 0, .int .i64 0, .int .i64 0, .int .i64 0, .int .i64 0, .int .i64 0, .string ⟨#[]⟩] := by rw [hW0]; exact hk0.set_ 3 _
  rw [← hW0]
  clear hW0
  obtain ⟨w5_4, hW0⟩ : ∃ W, W = w5_3.setCell ⟨w.heap.size, 4, none⟩ (.int .i64 0) := ⟨_, rfl⟩
  replace hcc : ChgA (w.heap.size) w4 w5_4 := by rw [hW0]; exact hcc.set _ _
  replace hk0 : Blk w5_4 (w.heap.size) 31 [.int .i64 0, .int .i64 0, .int .i64 0, .int .i64 0, .int .i64 0, .int .i64 0, .int .i64 0, .int .i64 0, .int .i64 0, .int .i64 0, .int .i64 0, .int .i64 0, .int .i64 0, .int .i64 0, .int .i64 0, .string ⟨#[]⟩] := by rw [hW0]; exact hk0.set_ 4 _
  rw [← hW0]
  clear hW0
  obtain ⟨w5_5, hW0⟩ : ∃ W, W = w5_4.setCell ⟨w.heap.size, 5, none⟩ (.int .i64 0) := ⟨_, rfl⟩
  replace hcc : ChgA (w.heap.size) w4 w5_5 := by rw [hW0]; exact hcc.set _ _
  replace hk0 : Blk w5_5 (w.heap.size) 31 [.int .i64 0, .int .i64 0, .int .i64 0, .int .i64 0, .int .i64 0, .int .i64 0, .int .i64 0, .int .i64 0, .int .i64 0, .int .i64 0, .int .i64 0, .int .i64 0, .int .i64 0, .int .i64 0, .int .i64 0, .string ⟨#[]⟩] := by rw [hW0]; exact hk0.set_ 5 _
  rw [← hW0]
  clear hW0
  obtain ⟨w5_6, hW0⟩ : ∃ W, W = w5_5.setCell ⟨w.heap.size, 6, none⟩ (.int .i64 0) := ⟨_, rfl⟩
  replace hcc : ChgA (w.heap.size) w4 w5_6 := by rw [hW0]; exact hcc.set _ _
  replace hk0 : Blk w5_6 (w.heap.size) 31 [.int .i64 0, .int .i64 0, .int .i64 0, .int .i64 0, .int .i64 0, .int .i64 0, .int .i64 0, .int .i64 0, .int .i64 0, .int .i64 0, .int .i64 0, .int .i64 0, .int .i64 0, .int .i64 0, .int .i64 0, .string ⟨#[]⟩] := by rw [hW0]; exact hk0.set_ 6 _
  rw [← hW0]
  clear hW0
  obtain ⟨w5_7, hW0⟩ : ∃ W, W = w5_6.setCell ⟨w.heap.size, 7, none⟩ (.int .i64 0) := ⟨_, rfl⟩
  replace hcc : ChgA (w.heap.size) w4 w5_7 := by rw [hW0]; exact hcc.set _ _
  replace hk0 : Blk w5_7 (w.heap.size) 31 [.int .i64 0, .int .i64 0, .int .i64 0, .int .i64 0, .int .i64 0, .int .i64 0, .int .i64 0, .int .i64 0, .int .i64 0, .int .i64 0, .int .i64 0, .int .i64 0, .int .i64 0, .int .i64 0, .int .i64 0, .string ⟨#[]⟩] := by rw [hW0]; exact hk0.set_ 7 _
  rw [← hW0]
  clear hW0
  obtain ⟨w5_8, hW0⟩ : ∃ W, W = w5_7.setCell ⟨w.heap.size, 8, none⟩ (.int .i64 0) := ⟨_, rfl⟩
  replace hcc : ChgA (w.heap.size) w4 w5_8 := by rw [hW0]; exact hcc.set _ _
  replace hk0 : Blk w5_8 (w.heap.size) 31 [.int .i64 0, .int .i64 0, .int .i64 0, .int .i64 0, .int .i64 0, .int .i64 0, .int .i64 0, .int .i64 0, .int .i64 0, .int .i64 0, .int .i64 0, .int .i64 0, .int .i64 0, .int .i64 0, .int .i64 0, .string ⟨#[]⟩] := by rw [hW0]; exact hk0.set_ 8 _
  rw [← hW0]
  clear hW0
  obtain ⟨w5_9, hW0⟩ : ∃ W, W = w5_8.setCell ⟨w.heap.size, 9, none⟩ (.int .i64 0) := ⟨_, rfl⟩
  replace hcc : ChgA (w.heap.size) w4 w5_9 := by rw [hW0]; exact hcc.set _ _
  replace hk0 : Blk w5_9 (w.heap.size) 31 [.int .i64 0, .int .i64 0, .int .i64 0, .int .i64 0, .int .i64 0, .int .i64 0, .int .i64 0, .int .i64 0, .int .i64 0, .int .i64 0, .int .i64 0, .int .i64 0, .int .i64 0, .int .i64 0, .int .i64 0, .string ⟨#[]⟩] := by rw [hW0]; exact hk0.set_ 9 _
  rw [← hW0]
  clear hW0
  obtain ⟨w5_10, hW0⟩ : ∃ W, W = w5_9.setCell ⟨w.heap.size, 10, none⟩ (.int .i64 0) := ⟨_, rfl⟩
  replace hcc : ChgA (w.heap.size) w4 w5_10 := by rw [hW0]; exact hcc.set _ _
  replace hk0 : Blk w5_10 (w.heap.size) 31 [.int .i64 0, .int .i64 0, .int .i64 0, .int .i64 0, .int .i64 0, .int .i64 0, .int .i64 0, .int .i64 0, .int .i64 0, .int .i64 0, .int .i64 0, .int .i64 0, .int .i64 0, .int .i64 0, .int .i64 0, .string ⟨#[]⟩] := by rw [hW0]; exact hk0.set_ 10 _
  rw [← hW0]
  clear hW0
  obtain ⟨w5_11, hW0⟩ : ∃ W, W = w5_10.setCell ⟨w.heap.size, 11, none⟩ (.int .i64 0) := ⟨_, rfl⟩
  replace hcc : ChgA (w.heap.size) w4 w5_11 := by rw [hW0]; exact hcc.set _ _
  replace hk0 : Blk w5_11 (w.heap.size) 31 [.int .i64 0, .int .i64 0, .int .i64 0, .int .i64 0, .int .i64 0, .int .i64 0, .int .i64 0, .int .i64 0, .int .i64 0, .int .i64 0, .int .i64 0, .int .i64 0, .int .i64 0, .int .i64 0, .int .i64 0, .string ⟨#[]⟩] := by rw [hW0]; exact hk0.set_ 11 _
  rw [← hW0]
  clear hW0
  obtain ⟨w5_12, hW0⟩ : ∃ W, W = w5_11.setCell ⟨w.heap.size, 12, none⟩ (.int .i64 0) := ⟨_, rfl⟩
  replace hcc : ChgA (w.heap.size) w4 w5_12 := by rw [hW0]; exact hcc.set _ _
  replace hk0 : Blk w5_12 (w.heap.size) 31 [.int .i64 0, .int .i64 0, .int .i64 0, .int .i64 0, .int .i64 0, .int .i64 0, .int .i64 0, .int .i64 0, .int .i64 0, .int .i64 0, .int .i64 0, .int .i64 0, .int .i64 0, .int .i64 0, .int .i64 0, .string ⟨#[]⟩] := by rw [hW0]; exact hk0.set_ 12 _
  rw [← hW0]
  clear hW0
  obtain ⟨w5_13, hW0⟩ : ∃ W, W = w5_12.setCell ⟨w.heap.size, 13, none⟩ (.int .i64 0) := ⟨_, rfl⟩
  replace hcc : ChgA (w.heap.size) w4 w5_13 := by rw [hW0]; exact hcc.set _ _
  replace hk0 : Blk w5_13 (w.heap.size) 31 [.int .i64 0, .int .i64 0, .int .i64 0, .int .i64 0, .int .i64 0, .int .i64 0, .int .i64 0, .int .i64 0, .int .i64 0, .int .i64 0, .int .i64 0, .int .i64 0, .int .i64 0, .int .i64 0, .int .i64 0, .string ⟨#[]⟩] := by rw [hW0]; exact hk0.set_ 13 _
  rw [← hW0]
  clear hW0
  obtain ⟨w5_14, hW0⟩ : ∃ W, W = w5_13.setCell ⟨w.heap.size, 14, none⟩ (.int .i64 0) := ⟨_, rfl⟩
  replace hcc : ChgA (w.heap.size) w4 w5_14 := by rw [hW0]; exact hcc.set _ _
  replace hk0 : Blk w5_14 (w.heap.size) 31 [.int .i64 0, .int .i64 0, .int .i64 0, .int .i64 0, .int .i64 0, .int .i64 0, .int .i64 0, .int .i64 0, .int .i64 0, .int .i64 0, .int .i64 0, .int .i64 0, .int .i64 0, .int .i64 0, .int .i64 0, .string ⟨#[]⟩] := by rw [hW0]; exact hk0.set_ 14 _
  rw [← hW0]
  clear hW0
  obtain ⟨w5, hW0⟩ : ∃ W, W = w5_14.setCell ⟨w.heap.size, 15, none⟩ (.string ⟨#[]⟩) := ⟨_, rfl⟩
  replace hcc : ChgA (w.heap.size) w4 w5 := by rw [hW0]; exact hcc.set _ _
  replace hk0 : Blk w5 (w.heap.size) 31 [.int .i64 0, .int .i64 0, .int .i64 0, .int .i64 0, .int .i64 0, .int .i64 0, .int .i64 0, .int .i64 0, .int .i64 0, .int .i64 0, .int .i64 0, .int .i64 0, .int .i64 0, .int .i64 0, .int .i64 0, .string ⟨#[]⟩] := by rw [hW0]; exact hk0.set_ 15 _
  rw [← hW0]
  clear hW0
  have hc := hcc
  have k5 := hc.below (by omega) k4
  have p5 := hc.size
  replace bl0 := Nat.lt_of_lt_of_le bl0 (Nat.le_of_eq p5.symm)
  replace bl1 := Nat.lt_of_lt_of_le bl1 (Nat.le_of_eq p5.symm)
  replace bl2 := Nat.lt_of_lt_of_le bl2 (Nat.le_of_eq p5.symm)
  clear hc hcc
  clear bx0_0 fz0_0 bx0_1 fz0_1 bx0_2 fz0_2 bx0_3 fz0_3 bx0_4 fz0_4 bx0_5 fz0_5 bx0_6 fz0_6 bx0_7 fz0_7 bx0_8 fz0_8 bx0_9 fz0_9 bx0_10 fz0_10 bx0_11 fz0_11 bx0_12 fz0_12 bx0_13 fz0_13 bx0_14 fz0_14 bx0_15 fz0_15
  have hv := loadVar_blk (P := Try.prog) hk0 (n := 16) rfl (by simp [go_sem]) (by simp [go_sem])
  refine bodyPost_ret (v := .tuple #[.agg #[.int .i64 0, .int .i64 0, .int .i64 0, .int .i64 0, .int .i64 0, .int .i64 0, .int .i64 0, .int .i64 0, .int .i64 0, .int .i64 0, .int .i64 0, .int .i64 0, .int .i64 0, .int .i64 0, .int .i64 0, .string ⟨#[]⟩], .int .i64 3]) (by simp [results, Try.results20, asAddr, Result.andThen, hv]) rfl ?_
  exact ⟨rfl, k5⟩
set_option maxRecDepth 100000 in
set_option maxHeartbeats 4000000 in
theorem implRead_g (w : World) {s : ByteArray} {D S V it ii il kd si di : Int} {B G : ByteArray} (hE : ∀ u : World, Calls Try.prog 61 #[.string s] u fun e w' => e = .returned (.tuple #[.agg #[.int .i64 D, .int .i64 S, .int .i64 V, .int .i64 2048, .string B], .bool true]) ∧ Below u.heap.size u w') (hI : ∀ u : World, Calls Try.prog 74 #[.string B] u fun e w' => e = .returned (.tuple #[.agg #[.int .i64 it, .int .i64 ii, .int .i64 il, .int .i64 kd, .int .i64 si, .int .i64 di, .string G], .bool true]) ∧ Below u.heap.size u w') (hG : ∀ u : World, Calls Try.prog 75 #[.int .i64 si, .int .i64 di, .int .i64 kd, .string G] u fun e w' => e = .returned (.tuple #[.agg #[.int .i64 0, .int .i64 0, .int .i64 0, .int .i64 0, .int .i64 0, .int .i64 0, .int .i64 0, .string ByteArray.empty], .bool false]) ∧ Below u.heap.size u w') :
    Calls Try.prog 20 #[.string s] w fun e w' => e = .returned (.tuple #[.agg #[.int .i64 0, .int .i64 0, .int .i64 0, .int .i64 0, .int .i64 0, .int .i64 0, .int .i64 0, .int .i64 0, .int .i64 0, .int .i64 0, .int .i64 0, .int .i64 0, .int .i64 0, .int .i64 0, .int .i64 0, .string ByteArray.empty], .int .i64 4]) ∧ Below w.heap.size w w' := by
  go_enter Try.func20, Try.ntmps20
  go_wp2_with fail
  have k0 : Below w.heap.size w (w.alloc (.cells #[.int .i64 0, .int .i64 0, .int .i64 0, .int .i64 0, .int .i64 0, .int .i64 0, .int .i64 0, .int .i64 0, .int .i64 0, .int .i64 0, .int .i64 0, .int .i64 0, .int .i64 0, .int .i64 0, .int .i64 0, .string ⟨#[]⟩] 31)) := by go_grown
  have bl0 : w.heap.size < (w.alloc (.cells #[.int .i64 0, .int .i64 0, .int .i64 0, .int .i64 0, .int .i64 0, .int .i64 0, .int .i64 0, .int .i64 0, .int .i64 0, .int .i64 0, .int .i64 0, .int .i64 0, .int .i64 0, .int .i64 0, .int .i64 0, .string ⟨#[]⟩] 31)).heap.size := by go_size
  have hk0 : Blk (w.alloc (.cells #[.int .i64 0, .int .i64 0, .int .i64 0, .int .i64 0, .int .i64 0, .int .i64 0, .int .i64 0, .int .i64 0, .int .i64 0, .int .i64 0, .int .i64 0, .int .i64 0, .int .i64 0, .int .i64 0, .int .i64 0, .string ⟨#[]⟩] 31)) (w.heap.size) 31 [.int .i64 0, .int .i64 0, .int .i64 0, .int .i64 0, .int .i64 0, .int .i64 0, .int .i64 0, .int .i64 0, .int .i64 0, .int .i64 0, .int .i64 0, .int .i64 0, .int .i64 0, .int .i64 0, .int .i64 0, .string ⟨#[]⟩] := by simpa using Blk.new w 31 [.int .i64 0, .int .i64 0, .int .i64 0, .int .i64 0, .int .i64 0, .int .i64 0, .int .i64 0, .int .i64 0, .int .i64 0, .int .i64 0, .int .i64 0, .int .i64 0, .int .i64 0, .int .i64 0, .int .i64 0, .string ⟨#[]⟩]
  have p0 := k0.size
  generalize hW0 : (w.alloc (.cells #[.int .i64 0, .int .i64 0, .int .i64 0, .int .i64 0, .int .i64 0, .int .i64 0, .int .i64 0, .int .i64 0, .int .i64 0, .int .i64 0, .int .i64 0, .int .i64 0, .int .i64 0, .int .i64 0, .int .i64 0, .string ⟨#[]⟩] 31)) = w0 at *
  clear hW0
  refine (hE _).mono ?_
  rintro e w1 ⟨rfl, hb⟩
  have k1 : Below w.heap.size w w1 := ext_step k0 (by omega) hb
  have p1 := hb.size
  replace hk0 := hk0.ext hb
  have bl0 := Nat.lt_of_lt_of_le bl0 hb.size
  clear hb
  go_wp2_with fail
  obtain ⟨w2, hW0⟩ : ∃ W, W = (w1.alloc (.cells #[.int .i64 D, .int .i64 S, .int .i64 V, .int .i64 2048, .string B] 99)) := ⟨_, rfl⟩
  have hb : Below w1.heap.size w1 w2 := by rw [hW0]; go_grown
  have bl1 : w1.heap.size < w2.heap.size := by rw [hW0]; go_size
  have hk1 : Blk w2 (w1.heap.size) 99 [.int .i64 D, .int .i64 S, .int .i64 V, .int .i64 2048, .string B] := by rw [hW0]; exact Blk.new _ _ _
  rw [← hW0]
  clear hW0
  have k2 := ext_step k1 (by omega) hb
  have p2 := hb.size
  replace hk0 := hk0.ext hb
  have bl0 := Nat.lt_of_lt_of_le bl0 hb.size
  clear hb
  refine (hI _).mono ?_
  rintro e w3 ⟨rfl, hb⟩
  have k3 : Below w.heap.size w w3 := ext_step k2 (by omega) hb
  have p3 := hb.size
  replace hk0 := hk0.ext hb
  replace hk1 := hk1.ext hb
  have bl0 := Nat.lt_of_lt_of_le bl0 hb.size
  have bl1 := Nat.lt_of_lt_of_le bl1 hb.size
  clear hb
  go_wp2_with fail
  obtain ⟨w4, hW0⟩ : ∃ W, W = (w3.alloc (.cells #[.int .i64 it, .int .i64 ii, .int .i64 il, .int .i64 kd, .int .i64 si, .int .i64 di, .string G] 110)) := ⟨_, rfl⟩
  have hb : Below w3.heap.size w3 w4 := by rw [hW0]; go_grown
  have bl2 : w3.heap.size < w4.heap.size := by rw [hW0]; go_size
  have hk2 : Blk w4 (w3.heap.size) 110 [.int .i64 it, .int .i64 ii, .int .i64 il, .int .i64 kd, .int .i64 si, .int .i64 di, .string G] := by rw [hW0]; exact Blk.new _ _ _
  rw [← hW0]
  clear hW0
  have k4 := ext_step k3 (by omega) hb
  have p4 := hb.size
  replace hk0 := hk0.ext hb
  replace hk1 := hk1.ext hb
  have bl0 := Nat.lt_of_lt_of_le bl0 hb.size
  have bl1 := Nat.lt_of_lt_of_le bl1 hb.size
  clear hb
  refine (hG _).mono ?_
  rintro e w5 ⟨rfl, hb⟩
  have k5 : Below w.heap.size w w5 := ext_step k4 (by omega) hb
  have p5 := hb.size
  replace hk0 := hk0.ext hb
  replace hk1 := hk1.ext hb
  replace hk2 := hk2.ext hb
  have bl0 := Nat.lt_of_lt_of_le bl0 hb.size
  have bl1 := Nat.lt_of_lt_of_le bl1 hb.size
  have bl2 := Nat.lt_of_lt_of_le bl2 hb.size
  clear hb
  clear  hk1 hk2
  go_upto_region 9 with fail
  obtain ⟨w6, hW0⟩ : ∃ W, W = (w5.alloc (.cells #[.int .i64 0, .int .i64 0, .int .i64 0, .int .i64 0, .int .i64 0, .int .i64 0, .int .i64 0, .string ByteArray.empty] 29)) := ⟨_, rfl⟩
  have hb : Below w5.heap.size w5 w6 := by rw [hW0]; go_grown
  have bl3 : w5.heap.size < w6.heap.size := by rw [hW0]; go_size
  have hk3 : Blk w6 (w5.heap.size) 29 [.int .i64 0, .int .i64 0, .int .i64 0, .int .i64 0, .int .i64 0, .int .i64 0, .int .i64 0, .string ByteArray.empty] := by rw [hW0]; exact Blk.new _ _ _
  rw [← hW0]
  clear hW0
  have k6 := ext_step k5 (by omega) hb
  have p6 := hb.size
  replace hk0 := hk0.ext hb
  have bl0 := Nat.lt_of_lt_of_le bl0 hb.size
  have bl1 := Nat.lt_of_lt_of_le bl1 hb.size
  have bl2 := Nat.lt_of_lt_of_le bl2 hb.size
  clear hb
  have bx0_0 := hk0.at_ 0 _ rfl
  have fz0_0 := hk0.frozen 0
  have bx0_1 := hk0.at_ 1 _ rfl
  have fz0_1 := hk0.frozen 1
  have bx0_2 := hk0.at_ 2 _ rfl
  have fz0_2 := hk0.frozen 2
  have bx0_3 := hk0.at_ 3 _ rfl
  have fz0_3 := hk0.frozen 3
  have bx0_4 := hk0.at_ 4 _ rfl
  have fz0_4 := hk0.frozen 4
  have bx0_5 := hk0.at_ 5 _ rfl
  have fz0_5 := hk0.frozen 5
  have bx0_6 := hk0.at_ 6 _ rfl
  have fz0_6 := hk0.frozen 6
  have bx0_7 := hk0.at_ 7 _ rfl
  have fz0_7 := hk0.frozen 7
  have bx0_8 := hk0.at_ 8 _ rfl
  have fz0_8 := hk0.frozen 8
  have bx0_9 := hk0.at_ 9 _ rfl
  have fz0_9 := hk0.frozen 9
  have bx0_10 := hk0.at_ 10 _ rfl
  have fz0_10 := hk0.frozen 10
  have bx0_11 := hk0.at_ 11 _ rfl
  have fz0_11 := hk0.frozen 11
  have bx0_12 := hk0.at_ 12 _ rfl
  have fz0_12 := hk0.frozen 12
  have bx0_13 := hk0.at_ 13 _ rfl
  have fz0_13 := hk0.frozen 13
  have bx0_14 := hk0.at_ 14 _ rfl
  have fz0_14 := hk0.frozen 14
  have bx0_15 := hk0.at_ 15 _ rfl
  have fz0_15 := hk0.frozen 15
  go_wp2_with fail
  clear  hk3
  have hcc := ChgA.refl (w.heap.size) w6
  obtain ⟨w7_0, hW0⟩ : ∃ W, W = w6.setCell ⟨w.heap.size, 0, none⟩ (.int .i64 0) := ⟨_, rfl⟩
  replace hcc : ChgA (w.heap.size) w6 w7_0 := by rw [hW0]; exact hcc.set _ _
  replace hk0 : Blk w7_0 (w.heap.size) 31 [.int .i64 0, .int .i64 0, .int .i64 0, .int .i64 0, .int .i64 0, .int .i64 0, .int .i64 0, .int .i64 0, .int .i64 0, .int .i64 0, .int .i64 0, .int .i64 0, .int .i64 0, .int .i64 0, .int .i64 0, .string ⟨#[]⟩] := by rw [hW0]; exact hk0.set_ 0 _
  rw [← hW0]
  clear hW0
  obtain ⟨w7_1, hW0⟩ : ∃ W, W = w7_0.setCell ⟨w.heap.size, 1, none⟩ (.int .i64 0) := ⟨_, rfl⟩
  replace hcc : ChgA (w.heap.size) w6 w7_1 := by rw [hW0]; exact hcc.set _ _
  replace hk0 : Blk w7_1 (w.heap.size) 31 [.int .i64 0, .int .i64 0, .int .i64 0, .int .i64 0, .int .i64 0, .int .i64 0, .int .i64 0, .int .i64 0, .int .i64 0, .int .i64 0, .int .i64 0, .int .i64 0, .int .i64 0, .int .i64 0, .int .i64 0, .string ⟨#[]⟩] := by rw [hW0]; exact hk0.set_ 1 _
  rw [← hW0]
  clear hW0
  obtain ⟨w7_2, hW0⟩ : ∃ W, W = w7_1.setCell ⟨w.heap.size, 2, none⟩ (.int .i64 0) := ⟨_, rfl⟩
  replace hcc : ChgA (w.heap.size) w6 w7_2 := by rw [hW0]; exact hcc.set _ _
  replace hk0 : Blk w7_2 (w.heap.size) 31 [.int .i64 0, .int .i64 0, .int .i64 0, .int .i64 0, .int .i64 0, .int .i64 0, .int .i64 0, .int .i64 0, .int .i64 0, .int .i64 0, .int .i64 0, .int .i64 0, .int .i64 0, .int .i64 0, .int .i64 0, .string ⟨#[]⟩] := by rw [hW0]; exact hk0.set_ 2 _
  rw [← hW0]
  clear hW0
  obtain ⟨w7_3, hW0⟩ : ∃ W, W = w7_2.setCell ⟨w.heap.size, 3, none⟩ (.int .i64 0) := ⟨_, rfl⟩
  replace hcc : ChgA (w.heap.size) w6 w7_3 := by rw [hW0]; exact hcc.set _ _
  replace hk0 : Blk w7_3 (w.heap.size) 31 [.int .i64 0, .int .i64 0, .int .i64 0, .int .i64 0, .int .i64 0, .int .i64 0, .int .i64 0, .int .i64 0, .int .i64 0, .int .i64 0, .int .i64 0, .int .i64 0, .int .i64 0, .int .i64 0, .int .i64 0, .string ⟨#[]⟩] := by rw [hW0]; exact hk0.set_ 3 _
  rw [← hW0]
  clear hW0
  obtain ⟨w7_4, hW0⟩ : ∃ W, W = w7_3.setCell ⟨w.heap.size, 4, none⟩ (.int .i64 0) := ⟨_, rfl⟩
  replace hcc : ChgA (w.heap.size) w6 w7_4 := by rw [hW0]; exact hcc.set _ _
  replace hk0 : Blk w7_4 (w.heap.size) 31 [.int .i64 0, .int .i64 0, .int .i64 0, .int .i64 0, .int .i64 0, .int .i64 0, .int .i64 0, .int .i64 0, .int .i64 0, .int .i64 0, .int .i64 0, .int .i64 0, .int .i64 0, .int .i64 0, .int .i64 0, .string ⟨#[]⟩] := by rw [hW0]; exact hk0.set_ 4 _
  rw [← hW0]
  clear hW0
  obtain ⟨w7_5, hW0⟩ : ∃ W, W = w7_4.setCell ⟨w.heap.size, 5, none⟩ (.int .i64 0) := ⟨_, rfl⟩
  replace hcc : ChgA (w.heap.size) w6 w7_5 := by rw [hW0]; exact hcc.set _ _
  replace hk0 : Blk w7_5 (w.heap.size) 31 [.int .i64 0, .int .i64 0, .int .i64 0, .int .i64 0, .int .i64 0, .int .i64 0, .int .i64 0, .int .i64 0, .int .i64 0, .int .i64 0, .int .i64 0, .int .i64 0, .int .i64 0, .int .i64 0, .int .i64 0, .string ⟨#[]⟩] := by rw [hW0]; exact hk0.set_ 5 _
  rw [← hW0]
  clear hW0
  obtain ⟨w7_6, hW0⟩ : ∃ W, W = w7_5.setCell ⟨w.heap.size, 6, none⟩ (.int .i64 0) := ⟨_, rfl⟩
  replace hcc : ChgA (w.heap.size) w6 w7_6 := by rw [hW0]; exact hcc.set _ _
  replace hk0 : Blk w7_6 (w.heap.size) 31 [.int .i64 0, .int .i64 0, .int .i64 0, .int .i64 0, .int .i64 0, .int .i64 0, .int .i64 0, .int .i64 0, .int .i64 0, .int .i64 0, .int .i64 0, .int .i64 0, .int .i64 0, .int .i64 0, .int .i64 0, .string ⟨#[]⟩] := by rw [hW0]; exact hk0.set_ 6 _
  rw [← hW0]
  clear hW0
  obtain ⟨w7_7, hW0⟩ : ∃ W, W = w7_6.setCell ⟨w.heap.size, 7, none⟩ (.int .i64 0) := ⟨_, rfl⟩
  replace hcc : ChgA (w.heap.size) w6 w7_7 := by rw [hW0]; exact hcc.set _ _
  replace hk0 : Blk w7_7 (w.heap.size) 31 [.int .i64 0, .int .i64 0, .int .i64 0, .int .i64 0, .int .i64 0, .int .i64 0, .int .i64 0, .int .i64 0, .int .i64 0, .int .i64 0, .int .i64 0, .int .i64 0, .int .i64 0, .int .i64 0, .int .i64 0, .string ⟨#[]⟩] := by rw [hW0]; exact hk0.set_ 7 _
  rw [← hW0]
  clear hW0
  obtain ⟨w7_8, hW0⟩ : ∃ W, W = w7_7.setCell ⟨w.heap.size, 8, none⟩ (.int .i64 0) := ⟨_, rfl⟩
  replace hcc : ChgA (w.heap.size) w6 w7_8 := by rw [hW0]; exact hcc.set _ _
  replace hk0 : Blk w7_8 (w.heap.size) 31 [.int .i64 0, .int .i64 0, .int .i64 0, .int .i64 0, .int .i64 0, .int .i64 0, .int .i64 0, .int .i64 0, .int .i64 0, .int .i64 0, .int .i64 0, .int .i64 0, .int .i64 0, .int .i64 0, .int .i64 0, .string ⟨#[]⟩] := by rw [hW0]; exact hk0.set_ 8 _
  rw [← hW0]
  clear hW0
  obtain ⟨w7_9, hW0⟩ : ∃ W, W = w7_8.setCell ⟨w.heap.size, 9, none⟩ (.int .i64 0) := ⟨_, rfl⟩
  replace hcc : ChgA (w.heap.size) w6 w7_9 := by rw [hW0]; exact hcc.set _ _
  replace hk0 : Blk w7_9 (w.heap.size) 31 [.int .i64 0, .int .i64 0, .int .i64 0, .int .i64 0, .int .i64 0, .int .i64 0, .int .i64 0, .int .i64 0, .int .i64 0, .int .i64 0, .int .i64 0, .int .i64 0, .int .i64 0, .int .i64 0, .int .i64 0, .string ⟨#[]⟩] := by rw [hW0]; exact hk0.set_ 9 _
  rw [← hW0]
  clear hW0
  obtain ⟨w7_10, hW0⟩ : ∃ W, W = w7_9.setCell ⟨w.heap.size, 10, none⟩ (.int .i64 0) := ⟨_, rfl⟩
  replace hcc : ChgA (w.heap.size) w6 w7_10 := by rw [hW0]; exact hcc.set _ _
  replace hk0 : Blk w7_10 (w.heap.size) 31 [.int .i64 0, .int .i64 0, .int .i64 0, .int .i64 0, .int .i64 0, .int .i64 0, .int .i64 0, .int .i64 0, .int .i64 0, .int .i64 0, .int .i64 0, .int .i64 0, .int .i64 0, .int .i64 0, .int .i64 0, .string ⟨#[]⟩] := by rw [hW0]; exact hk0.set_ 10 _
  rw [← hW0]
  clear hW0
  obtain ⟨w7_11, hW0⟩ : ∃ W, W = w7_10.setCell ⟨w.heap.size, 11, none⟩ (.int .i64 0) := ⟨_, rfl⟩
  replace hcc : ChgA (w.heap.size) w6 w7_11 := by rw [hW0]; exact hcc.set _ _
  replace hk0 : Blk w7_11 (w.heap.size) 31 [.int .i64 0, .int .i64 0, .int .i64 0, .int .i64 0, .int .i64 0, .int .i64 0, .int .i64 0, .int .i64 0, .int .i64 0, .int .i64 0, .int .i64 0, .int .i64 0, .int .i64 0, .int .i64 0, .int .i64 0, .string ⟨#[]⟩] := by rw [hW0]; exact hk0.set_ 11 _
  rw [← hW0]
  clear hW0
  obtain ⟨w7_12, hW0⟩ : ∃ W, W = w7_11.setCell ⟨w.heap.size, 12, none⟩ (.int .i64 0) := ⟨_, rfl⟩
  replace hcc : ChgA (w.heap.size) w6 w7_12 := by rw [hW0]; exact hcc.set _ _
  replace hk0 : Blk w7_12 (w.heap.size) 31 [.int .i64 0, .int .i64 0, .int .i64 0, .int .i64 0, .int .i64 0, .int .i64 0, .int .i64 0, .int .i64 0, .int .i64 0, .int .i64 0, .int .i64 0, .int .i64 0, .int .i64 0, .int .i64 0, .int .i64 0, .string ⟨#[]⟩] := by rw [hW0]; exact hk0.set_ 12 _
  rw [← hW0]
  clear hW0
  obtain ⟨w7_13, hW0⟩ : ∃ W, W = w7_12.setCell ⟨w.heap.size, 13, none⟩ (.int .i64 0) := ⟨_, rfl⟩
  replace hcc : ChgA (w.heap.size) w6 w7_13 := by rw [hW0]; exact hcc.set _ _
  replace hk0 : Blk w7_13 (w.heap.size) 31 [.int .i64 0, .int .i64 0, .int .i64 0, .int .i64 0, .int .i64 0, .int .i64 0, .int .i64 0, .int .i64 0, .int .i64 0, .int .i64 0, .int .i64 0, .int .i64 0, .int .i64 0, .int .i64 0, .int .i64 0, .string ⟨#[]⟩] := by rw [hW0]; exact hk0.set_ 13 _
  rw [← hW0]
  clear hW0
  obtain ⟨w7_14, hW0⟩ : ∃ W, W = w7_13.setCell ⟨w.heap.size, 14, none⟩ (.int .i64 0) := ⟨_, rfl⟩
  replace hcc : ChgA (w.heap.size) w6 w7_14 := by rw [hW0]; exact hcc.set _ _
  replace hk0 : Blk w7_14 (w.heap.size) 31 [.int .i64 0, .int .i64 0, .int .i64 0, .int .i64 0, .int .i64 0, .int .i64 0, .int .i64 0, .int .i64 0, .int .i64 0, .int .i64 0, .int .i64 0, .int .i64 0, .int .i64 0, .int .i64 0, .int .i64 0, .string ⟨#[]⟩] := by rw [hW0]; exact hk0.set_ 14 _
  rw [← hW0]
  clear hW0
  obtain ⟨w7, hW0⟩ : ∃ W, W = w7_14.setCell ⟨w.heap.size, 15, none⟩ (.string ⟨#[]⟩) := ⟨_, rfl⟩
  replace hcc : ChgA (w.heap.size) w6 w7 := by rw [hW0]; exact hcc.set _ _
  replace hk0 : Blk w7 (w.heap.size) 31 [.int .i64 0, .int .i64 0, .int .i64 0, .int .i64 0, .int .i64 0, .int .i64 0, .int .i64 0, .int .i64 0, .int .i64 0, .int .i64 0, .int .i64 0, .int .i64 0, .int .i64 0, .int .i64 0, .int .i64 0, .string ⟨#[]⟩] := by rw [hW0]; exact hk0.set_ 15 _
  rw [← hW0]
  clear hW0
  have hc := hcc
  have k7 := hc.below (by omega) k6
  have p7 := hc.size
  replace bl0 := Nat.lt_of_lt_of_le bl0 (Nat.le_of_eq p7.symm)
  replace bl1 := Nat.lt_of_lt_of_le bl1 (Nat.le_of_eq p7.symm)
  replace bl2 := Nat.lt_of_lt_of_le bl2 (Nat.le_of_eq p7.symm)
  replace bl3 := Nat.lt_of_lt_of_le bl3 (Nat.le_of_eq p7.symm)
  clear hc hcc
  clear bx0_0 fz0_0 bx0_1 fz0_1 bx0_2 fz0_2 bx0_3 fz0_3 bx0_4 fz0_4 bx0_5 fz0_5 bx0_6 fz0_6 bx0_7 fz0_7 bx0_8 fz0_8 bx0_9 fz0_9 bx0_10 fz0_10 bx0_11 fz0_11 bx0_12 fz0_12 bx0_13 fz0_13 bx0_14 fz0_14 bx0_15 fz0_15
  have hv := loadVar_blk (P := Try.prog) hk0 (n := 16) rfl (by simp [go_sem]) (by simp [go_sem])
  refine bodyPost_ret (v := .tuple #[.agg #[.int .i64 0, .int .i64 0, .int .i64 0, .int .i64 0, .int .i64 0, .int .i64 0, .int .i64 0, .int .i64 0, .int .i64 0, .int .i64 0, .int .i64 0, .int .i64 0, .int .i64 0, .int .i64 0, .int .i64 0, .string ⟨#[]⟩], .int .i64 4]) (by simp [results, Try.results20, asAddr, Result.andThen, hv]) rfl ?_
  exact ⟨rfl, k7⟩
set_option maxRecDepth 100000 in
set_option maxHeartbeats 4000000 in
theorem implRead_p (w : World) {s : ByteArray} {D S V it ii il kd si di a0 a1 a2 a3 a4 a5 : Int} {B G gB : ByteArray} (hE : ∀ u : World, Calls Try.prog 61 #[.string s] u fun e w' => e = .returned (.tuple #[.agg #[.int .i64 D, .int .i64 S, .int .i64 V, .int .i64 2048, .string B], .bool true]) ∧ Below u.heap.size u w') (hI : ∀ u : World, Calls Try.prog 74 #[.string B] u fun e w' => e = .returned (.tuple #[.agg #[.int .i64 it, .int .i64 ii, .int .i64 il, .int .i64 kd, .int .i64 si, .int .i64 di, .string G], .bool true]) ∧ Below u.heap.size u w') (hG : ∀ u : World, Calls Try.prog 75 #[.int .i64 si, .int .i64 di, .int .i64 kd, .string G] u fun e w' => e = .returned (.tuple #[.agg #[.int .i64 kd, .int .i64 a0, .int .i64 a1, .int .i64 a2, .int .i64 a3, .int .i64 a4, .int .i64 a5, .string gB], .bool true]) ∧ Below u.heap.size u w') (hS : ∀ u : World, Calls Try.prog 69 #[.agg #[.int .i64 D, .int .i64 S, .int .i64 V, .int .i64 it, .int .i64 ii, .int .i64 il, .int .i64 si, .int .i64 di, .int .i64 kd, .int .i64 a0, .int .i64 a1, .int .i64 a2, .int .i64 a3, .int .i64 a4, .int .i64 a5, .string gB]] u fun e w' => e = .returned (.bool false) ∧ Below u.heap.size u w') :
    Calls Try.prog 20 #[.string s] w fun e w' => e = .returned (.tuple #[.agg #[.int .i64 0, .int .i64 0, .int .i64 0, .int .i64 0, .int .i64 0, .int .i64 0, .int .i64 0, .int .i64 0, .int .i64 0, .int .i64 0, .int .i64 0, .int .i64 0, .int .i64 0, .int .i64 0, .int .i64 0, .string ByteArray.empty], .int .i64 5]) ∧ Below w.heap.size w w' := by
  go_enter Try.func20, Try.ntmps20
  go_wp2_with fail
  have k0 : Below w.heap.size w (w.alloc (.cells #[.int .i64 0, .int .i64 0, .int .i64 0, .int .i64 0, .int .i64 0, .int .i64 0, .int .i64 0, .int .i64 0, .int .i64 0, .int .i64 0, .int .i64 0, .int .i64 0, .int .i64 0, .int .i64 0, .int .i64 0, .string ⟨#[]⟩] 31)) := by go_grown
  have bl0 : w.heap.size < (w.alloc (.cells #[.int .i64 0, .int .i64 0, .int .i64 0, .int .i64 0, .int .i64 0, .int .i64 0, .int .i64 0, .int .i64 0, .int .i64 0, .int .i64 0, .int .i64 0, .int .i64 0, .int .i64 0, .int .i64 0, .int .i64 0, .string ⟨#[]⟩] 31)).heap.size := by go_size
  have hk0 : Blk (w.alloc (.cells #[.int .i64 0, .int .i64 0, .int .i64 0, .int .i64 0, .int .i64 0, .int .i64 0, .int .i64 0, .int .i64 0, .int .i64 0, .int .i64 0, .int .i64 0, .int .i64 0, .int .i64 0, .int .i64 0, .int .i64 0, .string ⟨#[]⟩] 31)) (w.heap.size) 31 [.int .i64 0, .int .i64 0, .int .i64 0, .int .i64 0, .int .i64 0, .int .i64 0, .int .i64 0, .int .i64 0, .int .i64 0, .int .i64 0, .int .i64 0, .int .i64 0, .int .i64 0, .int .i64 0, .int .i64 0, .string ⟨#[]⟩] := by simpa using Blk.new w 31 [.int .i64 0, .int .i64 0, .int .i64 0, .int .i64 0, .int .i64 0, .int .i64 0, .int .i64 0, .int .i64 0, .int .i64 0, .int .i64 0, .int .i64 0, .int .i64 0, .int .i64 0, .int .i64 0, .int .i64 0, .string ⟨#[]⟩]
  have p0 := k0.size
  generalize hW0 : (w.alloc (.cells #[.int .i64 0, .int .i64 0, .int .i64 0, .int .i64 0, .int .i64 0, .int .i64 0, .int .i64 0, .int .i64 0, .int .i64 0, .int .i64 0, .int .i64 0, .int .i64 0, .int .i64 0, .int .i64 0, .int .i64 0, .string ⟨#[]⟩] 31)) = w0 at *
  clear hW0
  refine (hE _).mono ?_
  rintro e w1 ⟨rfl, hb⟩
  have k1 : Below w.heap.size w w1 := ext_step k0 (by omega) hb
  have p1 := hb.size
  replace hk0 := hk0.ext hb
  have bl0 := Nat.lt_of_lt_of_le bl0 hb.size
  clear hb
  go_wp2_with fail
  obtain ⟨w2, hW0⟩ : ∃ W, W = (w1.alloc (.cells #[.int .i64 D, .int .i64 S, .int .i64 V, .int .i64 2048, .string B] 99)) := ⟨_, rfl⟩
  have hb : Below w1.heap.size w1 w2 := by rw [hW0]; go_grown
  have bl1 : w1.heap.size < w2.heap.size := by rw [hW0]; go_size
  have hk1 : Blk w2 (w1.heap.size) 99 [.int .i64 D, .int .i64 S, .int .i64 V, .int .i64 2048, .string B] := by rw [hW0]; exact Blk.new _ _ _
  rw [← hW0]
  clear hW0
  have k2 := ext_step k1 (by omega) hb
  have p2 := hb.size
  replace hk0 := hk0.ext hb
  have bl0 := Nat.lt_of_lt_of_le bl0 hb.size
  clear hb
  refine (hI _).mono ?_
  rintro e w3 ⟨rfl, hb⟩
  have k3 : Below w.heap.size w w3 := ext_step k2 (by omega) hb
  have p3 := hb.size
  replace hk0 := hk0.ext hb
  replace hk1 := hk1.ext hb
  have bl0 := Nat.lt_of_lt_of_le bl0 hb.size
  have bl1 := Nat.lt_of_lt_of_le bl1 hb.size
  clear hb
  go_wp2_with fail
  obtain ⟨w4, hW0⟩ : ∃ W, W = (w3.alloc (.cells #[.int .i64 it, .int .i64 ii, .int .i64 il, .int .i64 kd, .int .i64 si, .int .i64 di, .string G] 110)) := ⟨_, rfl⟩
  have hb : Below w3.heap.size w3 w4 := by rw [hW0]; go_grown
  have bl2 : w3.heap.size < w4.heap.size := by rw [hW0]; go_size
  have hk2 : Blk w4 (w3.heap.size) 110 [.int .i64 it, .int .i64 ii, .int .i64 il, .int .i64 kd, .int .i64 si, .int .i64 di, .string G] := by rw [hW0]; exact Blk.new _ _ _
  rw [← hW0]
  clear hW0
  have k4 := ext_step k3 (by omega) hb
  have p4 := hb.size
  replace hk0 := hk0.ext hb
  replace hk1 := hk1.ext hb
  have bl0 := Nat.lt_of_lt_of_le bl0 hb.size
  have bl1 := Nat.lt_of_lt_of_le bl1 hb.size
  clear hb
  refine (hG _).mono ?_
  rintro e w5 ⟨rfl, hb⟩
  have k5 : Below w.heap.size w w5 := ext_step k4 (by omega) hb
  have p5 := hb.size
  replace hk0 := hk0.ext hb
  replace hk1 := hk1.ext hb
  replace hk2 := hk2.ext hb
  have bl0 := Nat.lt_of_lt_of_le bl0 hb.size
  have bl1 := Nat.lt_of_lt_of_le bl1 hb.size
  have bl2 := Nat.lt_of_lt_of_le bl2 hb.size
  clear hb
  go_upto_region 10 with fail
  obtain ⟨w6, hW0⟩ : ∃ W, W = (w5.alloc (.cells #[.int .i64 kd, .int .i64 a0, .int .i64 a1, .int .i64 a2, .int .i64 a3, .int .i64 a4, .int .i64 a5, .string gB] 29)) := ⟨_, rfl⟩
  have hb : Below w5.heap.size w5 w6 := by rw [hW0]; go_grown
  have bl3 : w5.heap.size < w6.heap.size := by rw [hW0]; go_size
  have hk3 : Blk w6 (w5.heap.size) 29 [.int .i64 kd, .int .i64 a0, .int .i64 a1, .int .i64 a2, .int .i64 a3, .int .i64 a4, .int .i64 a5, .string gB] := by rw [hW0]; exact Blk.new _ _ _
  rw [← hW0]
  clear hW0
  have k6 := ext_step k5 (by omega) hb
  have p6 := hb.size
  replace hk0 := hk0.ext hb
  replace hk1 := hk1.ext hb
  replace hk2 := hk2.ext hb
  have bl0 := Nat.lt_of_lt_of_le bl0 hb.size
  have bl1 := Nat.lt_of_lt_of_le bl1 hb.size
  have bl2 := Nat.lt_of_lt_of_le bl2 hb.size
  clear hb
  have bx1_0 := hk1.at_ 0 _ rfl
  have bx1_1 := hk1.at_ 1 _ rfl
  have bx1_2 := hk1.at_ 2 _ rfl
  have bx1_3 := hk1.at_ 3 _ rfl
  have bx1_4 := hk1.at_ 4 _ rfl
  have bx2_0 := hk2.at_ 0 _ rfl
  have bx2_1 := hk2.at_ 1 _ rfl
  have bx2_2 := hk2.at_ 2 _ rfl
  have bx2_3 := hk2.at_ 3 _ rfl
  have bx2_4 := hk2.at_ 4 _ rfl
  have bx2_5 := hk2.at_ 5 _ rfl
  have bx2_6 := hk2.at_ 6 _ rfl
  have bx3_0 := hk3.at_ 0 _ rfl
  have bx3_1 := hk3.at_ 1 _ rfl
  have bx3_2 := hk3.at_ 2 _ rfl
  have bx3_3 := hk3.at_ 3 _ rfl
  have bx3_4 := hk3.at_ 4 _ rfl
  have bx3_5 := hk3.at_ 5 _ rfl
  have bx3_6 := hk3.at_ 6 _ rfl
  have bx3_7 := hk3.at_ 7 _ rfl
  go_wp2_with fail
  obtain ⟨w7, hW0⟩ : ∃ W, W = (w6.alloc (.cells #[.int .i64 D, .int .i64 S, .int .i64 V, .int .i64 it, .int .i64 ii, .int .i64 il, .int .i64 si, .int .i64 di, .int .i64 kd, .int .i64 a0, .int .i64 a1, .int .i64 a2, .int .i64 a3, .int .i64 a4, .int .i64 a5, .string gB] 31)) := ⟨_, rfl⟩
  have hb : Below w6.heap.size w6 w7 := by rw [hW0]; go_grown
  have bl4 : w6.heap.size < w7.heap.size := by rw [hW0]; go_size
  have hk4 : Blk w7 (w6.heap.size) 31 [.int .i64 D, .int .i64 S, .int .i64 V, .int .i64 it, .int .i64 ii, .int .i64 il, .int .i64 si, .int .i64 di, .int .i64 kd, .int .i64 a0, .int .i64 a1, .int .i64 a2, .int .i64 a3, .int .i64 a4, .int .i64 a5, .string gB] := by rw [hW0]; exact Blk.new _ _ _
  rw [← hW0]
  clear hW0
  have k7 := ext_step k6 (by omega) hb
  have p7 := hb.size
  replace hk0 := hk0.ext hb
  replace hk1 := hk1.ext hb
  replace hk2 := hk2.ext hb
  replace hk3 := hk3.ext hb
  clear bx1_0 bx1_1 bx1_2 bx1_3 bx1_4 bx2_0 bx2_1 bx2_2 bx2_3 bx2_4 bx2_5 bx2_6 bx3_0 bx3_1 bx3_2 bx3_3 bx3_4 bx3_5 bx3_6 bx3_7
  have bl0 := Nat.lt_of_lt_of_le bl0 hb.size
  have bl1 := Nat.lt_of_lt_of_le bl1 hb.size
  have bl2 := Nat.lt_of_lt_of_le bl2 hb.size
  have bl3 := Nat.lt_of_lt_of_le bl3 hb.size
  clear hb
  clear  hk1 hk2 hk3
  refine (hS _).mono ?_
  rintro e w8 ⟨rfl, hb⟩
  have k8 : Below w.heap.size w w8 := ext_step k7 (by omega) hb
  have p8 := hb.size
  replace hk0 := hk0.ext hb
  replace hk4 := hk4.ext hb
  have bl0 := Nat.lt_of_lt_of_le bl0 hb.size
  have bl1 := Nat.lt_of_lt_of_le bl1 hb.size
  have bl2 := Nat.lt_of_lt_of_le bl2 hb.size
  have bl3 := Nat.lt_of_lt_of_le bl3 hb.size
  have bl4 := Nat.lt_of_lt_of_le bl4 hb.size
  clear hb
  have bx0_0 := hk0.at_ 0 _ rfl
  have fz0_0 := hk0.frozen 0
  have bx0_1 := hk0.at_ 1 _ rfl
  have fz0_1 := hk0.frozen 1
  have bx0_2 := hk0.at_ 2 _ rfl
  have fz0_2 := hk0.frozen 2
  have bx0_3 := hk0.at_ 3 _ rfl
  have fz0_3 := hk0.frozen 3
  have bx0_4 := hk0.at_ 4 _ rfl
  have fz0_4 := hk0.frozen 4
  have bx0_5 := hk0.at_ 5 _ rfl
  have fz0_5 := hk0.frozen 5
  have bx0_6 := hk0.at_ 6 _ rfl
  have fz0_6 := hk0.frozen 6
  have bx0_7 := hk0.at_ 7 _ rfl
  have fz0_7 := hk0.frozen 7
  have bx0_8 := hk0.at_ 8 _ rfl
  have fz0_8 := hk0.frozen 8
  have bx0_9 := hk0.at_ 9 _ rfl
  have fz0_9 := hk0.frozen 9
  have bx0_10 := hk0.at_ 10 _ rfl
  have fz0_10 := hk0.frozen 10
  have bx0_11 := hk0.at_ 11 _ rfl
  have fz0_11 := hk0.frozen 11
  have bx0_12 := hk0.at_ 12 _ rfl
  have fz0_12 := hk0.frozen 12
  have bx0_13 := hk0.at_ 13 _ rfl
  have fz0_13 := hk0.frozen 13
  have bx0_14 := hk0.at_ 14 _ rfl
  have fz0_14 := hk0.frozen 14
  have bx0_15 := hk0.at_ 15 _ rfl
  have fz0_15 := hk0.frozen 15
  go_wp2_with fail
  clear  hk4
  have hcc := ChgA.refl (w.heap.size) w8
  obtain ⟨w9_0, hW0⟩ : ∃ W, W = w8.setCell ⟨w.heap.size, 0, none⟩ (.int .i64 0) := ⟨_, rfl⟩
  replace hcc : ChgA (w.heap.size) w8 w9_0 := by rw [hW0]; exact hcc.set _ _
  replace hk0 : Blk w9_0 (w.heap.size) 31 [.int .i64 0, .int .i64 0, .int .i64 0, .int .i64 0, .int .i64 0, .int .i64 0, .int .i64 0, .int .i64 0, .int .i64 0, .int .i64 0, .int .i64 0, .int .i64 0, .int .i64 0, .int .i64 0, .int .i64 0, .string ⟨#[]⟩] := by rw [hW0]; exact hk0.set_ 0 _
  rw [← hW0]
  clear hW0
  obtain ⟨w9_1, hW0⟩ : ∃ W, W = w9_0.setCell ⟨w.heap.size, 1, none⟩ (.int .i64 0) := ⟨_, rfl⟩
  replace hcc : ChgA (w.heap.size) w8 w9_1 := by rw [hW0]; exact hcc.set _ _
  replace hk0 : Blk w9_1 (w.heap.size) 31 [.int .i64 0, .int .i64 0, .int .i64 0, .int .i64 0, .int .i64 0, .int .i64 0, .int .i64 0, .int .i64 0, .int .i64 0, .int .i64 0, .int .i64 0, .int .i64 0, .int .i64 0, .int .i64 0, .int .i64 0, .string ⟨#[]⟩] := by rw [hW0]; exact hk0.set_ 1 _
  rw [← hW0]
  clear hW0
  obtain ⟨w9_2, hW0⟩ : ∃ W, W = w9_1.setCell ⟨w.heap.size, 2, none⟩ (.int .i64 0) := ⟨_, rfl⟩
  replace hcc : ChgA (w.heap.size) w8 w9_2 := by rw [hW0]; exact hcc.set _ _
  replace hk0 : Blk w9_2 (w.heap.size) 31 [.int .i64 0, .int .i64 0, .int .i64 0, .int .i64 0, .int .i64 0, .int .i64 0, .int .i64 0, .int .i64 0, .int .i64 0, .int .i64 0, .int .i64 0, .int .i64 0, .int .i64 0, .int .i64 0, .int .i64 0, .string ⟨#[]⟩] := by rw [hW0]; exact hk0.set_ 2 _
  rw [← hW0]
  clear hW0
  obtain ⟨w9_3, hW0⟩ : ∃ W, W = w9_2.setCell ⟨w.heap.size, 3, none⟩ (.int .i64 0) := ⟨_, rfl⟩
  replace hcc : ChgA (w.heap.size) w8 w9_3 := by rw [hW0]; exact hcc.set _ _
  replace hk0 : Blk w9_3 (w.heap.size) 31 [.int .i64 0, .int .i64 0, .int .i64 0, .int .i64 0, .int .i64 0, .int .i64 0, .int .i64 0, .int .i64 0, .int .i64 0, .int .i64 0, .int .i64 0, .int .i64 0, .int .i64 0, .int .i64 0, .int .i64 0, .string ⟨#[]⟩] := by rw [hW0]; exact hk0.set_ 3 _
  rw [← hW0]
  clear hW0
  obtain ⟨w9_4, hW0⟩ : ∃ W, W = w9_3.setCell ⟨w.heap.size, 4, none⟩ (.int .i64 0) := ⟨_, rfl⟩
  replace hcc : ChgA (w.heap.size) w8 w9_4 := by rw [hW0]; exact hcc.set _ _
  replace hk0 : Blk w9_4 (w.heap.size) 31 [.int .i64 0, .int .i64 0, .int .i64 0, .int .i64 0, .int .i64 0, .int .i64 0, .int .i64 0, .int .i64 0, .int .i64 0, .int .i64 0, .int .i64 0, .int .i64 0, .int .i64 0, .int .i64 0, .int .i64 0, .string ⟨#[]⟩] := by rw [hW0]; exact hk0.set_ 4 _
  rw [← hW0]
  clear hW0
  obtain ⟨w9_5, hW0⟩ : ∃ W, W = w9_4.setCell ⟨w.heap.size, 5, none⟩ (.int .i64 0) := ⟨_, rfl⟩
  replace hcc : ChgA (w.heap.size) w8 w9_5 := by rw [hW0]; exact hcc.set _ _
  replace hk0 : Blk w9_5 (w.heap.size) 31 [.int .i64 0, .int .i64 0, .int .i64 0, .int .i64 0, .int .i64 0, .int .i64 0, .int .i64 0, .int .i64 0, .int .i64 0, .int .i64 0, .int .i64 0, .int .i64 0, .int .i64 0, .int .i64 0, .int .i64 0, .string ⟨#[]⟩] := by rw [hW0]; exact hk0.set_ 5 _
  rw [← hW0]
  clear hW0
  obtain ⟨w9_6, hW0⟩ : ∃ W, W = w9_5.setCell ⟨w.heap.size, 6, none⟩ (.int .i64 0) := ⟨_, rfl⟩
  replace hcc : ChgA (w.heap.size) w8 w9_6 := by rw [hW0]; exact hcc.set _ _
  replace hk0 : Blk w9_6 (w.heap.size) 31 [.int .i64 0, .int .i64 0, .int .i64 0, .int .i64 0, .int .i64 0, .int .i64 0, .int .i64 0, .int .i64 0, .int .i64 0, .int .i64 0, .int .i64 0, .int .i64 0, .int .i64 0, .int .i64 0, .int .i64 0, .string ⟨#[]⟩] := by rw [hW0]; exact hk0.set_ 6 _
  rw [← hW0]
  clear hW0
  obtain ⟨w9_7, hW0⟩ : ∃ W, W = w9_6.setCell ⟨w.heap.size, 7, none⟩ (.int .i64 0) := ⟨_, rfl⟩
  replace hcc : ChgA (w.heap.size) w8 w9_7 := by rw [hW0]; exact hcc.set _ _
  replace hk0 : Blk w9_7 (w.heap.size) 31 [.int .i64 0, .int .i64 0, .int .i64 0, .int .i64 0, .int .i64 0, .int .i64 0, .int .i64 0, .int .i64 0, .int .i64 0, .int .i64 0, .int .i64 0, .int .i64 0, .int .i64 0, .int .i64 0, .int .i64 0, .string ⟨#[]⟩] := by rw [hW0]; exact hk0.set_ 7 _
  rw [← hW0]
  clear hW0
  obtain ⟨w9_8, hW0⟩ : ∃ W, W = w9_7.setCell ⟨w.heap.size, 8, none⟩ (.int .i64 0) := ⟨_, rfl⟩
  replace hcc : ChgA (w.heap.size) w8 w9_8 := by rw [hW0]; exact hcc.set _ _
  replace hk0 : Blk w9_8 (w.heap.size) 31 [.int .i64 0, .int .i64 0, .int .i64 0, .int .i64 0, .int .i64 0, .int .i64 0, .int .i64 0, .int .i64 0, .int .i64 0, .int .i64 0, .int .i64 0, .int .i64 0, .int .i64 0, .int .i64 0, .int .i64 0, .string ⟨#[]⟩] := by rw [hW0]; exact hk0.set_ 8 _
  rw [← hW0]
  clear hW0
  obtain ⟨w9_9, hW0⟩ : ∃ W, W = w9_8.setCell ⟨w.heap.size, 9, none⟩ (.int .i64 0) := ⟨_, rfl⟩
  replace hcc : ChgA (w.heap.size) w8 w9_9 := by rw [hW0]; exact hcc.set _ _
  replace hk0 : Blk w9_9 (w.heap.size) 31 [.int .i64 0, .int .i64 0, .int .i64 0, .int .i64 0, .int .i64 0, .int .i64 0, .int .i64 0, .int .i64 0, .int .i64 0, .int .i64 0, .int .i64 0, .int .i64 0, .int .i64 0, .int .i64 0, .int .i64 0, .string ⟨#[]⟩] := by rw [hW0]; exact hk0.set_ 9 _
  rw [← hW0]
  clear hW0
  obtain ⟨w9_10, hW0⟩ : ∃ W, W = w9_9.setCell ⟨w.heap.size, 10, none⟩ (.int .i64 0) := ⟨_, rfl⟩
  replace hcc : ChgA (w.heap.size) w8 w9_10 := by rw [hW0]; exact hcc.set _ _
  replace hk0 : Blk w9_10 (w.heap.size) 31 [.int .i64 0, .int .i64 0, .int .i64 0, .int .i64 0, .int .i64 0, .int .i64 0, .int .i64 0, .int .i64 0, .int .i64 0, .int .i64 0, .int .i64 0, .int .i64 0, .int .i64 0, .int .i64 0, .int .i64 0, .string ⟨#[]⟩] := by rw [hW0]; exact hk0.set_ 10 _
  rw [← hW0]
  clear hW0
  obtain ⟨w9_11, hW0⟩ : ∃ W, W = w9_10.setCell ⟨w.heap.size, 11, none⟩ (.int .i64 0) := ⟨_, rfl⟩
  replace hcc : ChgA (w.heap.size) w8 w9_11 := by rw [hW0]; exact hcc.set _ _
  replace hk0 : Blk w9_11 (w.heap.size) 31 [.int .i64 0, .int .i64 0, .int .i64 0, .int .i64 0, .int .i64 0, .int .i64 0, .int .i64 0, .int .i64 0, .int .i64 0, .int .i64 0, .int .i64 0, .int .i64 0, .int .i64 0, .int .i64 0, .int .i64 0, .string ⟨#[]⟩] := by rw [hW0]; exact hk0.set_ 11 _
  rw [← hW0]
  clear hW0
  obtain ⟨w9_12, hW0⟩ : ∃ W, W = w9_11.setCell ⟨w.heap.size, 12, none⟩ (.int .i64 0) := ⟨_, rfl⟩
  replace hcc : ChgA (w.heap.size) w8 w9_12 := by rw [hW0]; exact hcc.set _ _
  replace hk0 : Blk w9_12 (w.heap.size) 31 [.int .i64 0, .int .i64 0, .int .i64 0, .int .i64 0, .int .i64 0, .int .i64 0, .int .i64 0, .int .i64 0, .int .i64 0, .int .i64 0, .int .i64 0, .int .i64 0, .int .i64 0, .int .i64 0, .int .i64 0, .string ⟨#[]⟩] := by rw [hW0]; exact hk0.set_ 12 _
  rw [← hW0]
  clear hW0
  obtain ⟨w9_13, hW0⟩ : ∃ W, W = w9_12.setCell ⟨w.heap.size, 13, none⟩ (.int .i64 0) := ⟨_, rfl⟩
  replace hcc : ChgA (w.heap.size) w8 w9_13 := by rw [hW0]; exact hcc.set _ _
  replace hk0 : Blk w9_13 (w.heap.size) 31 [.int .i64 0, .int .i64 0, .int .i64 0, .int .i64 0, .int .i64 0, .int .i64 0, .int .i64 0, .int .i64 0, .int .i64 0, .int .i64 0, .int .i64 0, .int .i64 0, .int .i64 0, .int .i64 0, .int .i64 0, .string ⟨#[]⟩] := by rw [hW0]; exact hk0.set_ 13 _
  rw [← hW0]
  clear hW0
  obtain ⟨w9_14, hW0⟩ : ∃ W, W = w9_13.setCell ⟨w.heap.size, 14, none⟩ (.int .i64 0) := ⟨_, rfl⟩
  replace hcc : ChgA (w.heap.size) w8 w9_14 := by rw [hW0]; exact hcc.set _ _
  replace hk0 : Blk w9_14 (w.heap.size) 31 [.int .i64 0, .int .i64 0, .int .i64 0, .int .i64 0, .int .i64 0, .int .i64 0, .int .i64 0, .int .i64 0, .int .i64 0, .int .i64 0, .int .i64 0, .int .i64 0, .int .i64 0, .int .i64 0, .int .i64 0, .string ⟨#[]⟩] := by rw [hW0]; exact hk0.set_ 14 _
  rw [← hW0]
  clear hW0
  obtain ⟨w9, hW0⟩ : ∃ W, W = w9_14.setCell ⟨w.heap.size, 15, none⟩ (.string ⟨#[]⟩) := ⟨_, rfl⟩
  replace hcc : ChgA (w.heap.size) w8 w9 := by rw [hW0]; exact hcc.set _ _
  replace hk0 : Blk w9 (w.heap.size) 31 [.int .i64 0, .int .i64 0, .int .i64 0, .int .i64 0, .int .i64 0, .int .i64 0, .int .i64 0, .int .i64 0, .int .i64 0, .int .i64 0, .int .i64 0, .int .i64 0, .int .i64 0, .int .i64 0, .int .i64 0, .string ⟨#[]⟩] := by rw [hW0]; exact hk0.set_ 15 _
  rw [← hW0]
  clear hW0
  have hc := hcc
  have k9 := hc.below (by omega) k8
  have p9 := hc.size
  replace bl0 := Nat.lt_of_lt_of_le bl0 (Nat.le_of_eq p9.symm)
  replace bl1 := Nat.lt_of_lt_of_le bl1 (Nat.le_of_eq p9.symm)
  replace bl2 := Nat.lt_of_lt_of_le bl2 (Nat.le_of_eq p9.symm)
  replace bl3 := Nat.lt_of_lt_of_le bl3 (Nat.le_of_eq p9.symm)
  replace bl4 := Nat.lt_of_lt_of_le bl4 (Nat.le_of_eq p9.symm)
  clear hc hcc
  clear bx0_0 fz0_0 bx0_1 fz0_1 bx0_2 fz0_2 bx0_3 fz0_3 bx0_4 fz0_4 bx0_5 fz0_5 bx0_6 fz0_6 bx0_7 fz0_7 bx0_8 fz0_8 bx0_9 fz0_9 bx0_10 fz0_10 bx0_11 fz0_11 bx0_12 fz0_12 bx0_13 fz0_13 bx0_14 fz0_14 bx0_15 fz0_15
  have hv := loadVar_blk (P := Try.prog) hk0 (n := 16) rfl (by simp [go_sem]) (by simp [go_sem])
  refine bodyPost_ret (v := .tuple #[.agg #[.int .i64 0, .int .i64 0, .int .i64 0, .int .i64 0, .int .i64 0, .int .i64 0, .int .i64 0, .int .i64 0, .int .i64 0, .int .i64 0, .int .i64 0, .int .i64 0, .int .i64 0, .int .i64 0, .int .i64 0, .string ⟨#[]⟩], .int .i64 5]) (by simp [results, Try.results20, asAddr, Result.andThen, hv]) rfl ?_
  exact ⟨rfl, k9⟩
set_option maxRecDepth 100000 in
set_option maxHeartbeats 4000000 in
theorem implRead_ok (w : World) {s : ByteArray} {D S V it ii il kd si di a0 a1 a2 a3 a4 a5 : Int} {B G gB : ByteArray} (hE : ∀ u : World, Calls Try.prog 61 #[.string s] u fun e w' => e = .returned (.tuple #[.agg #[.int .i64 D, .int .i64 S, .int .i64 V, .int .i64 2048, .string B], .bool true]) ∧ Below u.heap.size u w') (hI : ∀ u : World, Calls Try.prog 74 #[.string B] u fun e w' => e = .returned (.tuple #[.agg #[.int .i64 it, .int .i64 ii, .int .i64 il, .int .i64 kd, .int .i64 si, .int .i64 di, .string G], .bool true]) ∧ Below u.heap.size u w') (hG : ∀ u : World, Calls Try.prog 75 #[.int .i64 si, .int .i64 di, .int .i64 kd, .string G] u fun e w' => e = .returned (.tuple #[.agg #[.int .i64 kd, .int .i64 a0, .int .i64 a1, .int .i64 a2, .int .i64 a3, .int .i64 a4, .int .i64 a5, .string gB], .bool true]) ∧ Below u.heap.size u w') (hS : ∀ u : World, Calls Try.prog 69 #[.agg #[.int .i64 D, .int .i64 S, .int .i64 V, .int .i64 it, .int .i64 ii, .int .i64 il, .int .i64 si, .int .i64 di, .int .i64 kd, .int .i64 a0, .int .i64 a1, .int .i64 a2, .int .i64 a3, .int .i64 a4, .int .i64 a5, .string gB]] u fun e w' => e = .returned (.bool true) ∧ Below u.heap.size u w') :
    Calls Try.prog 20 #[.string s] w fun e w' => e = .returned (.tuple #[.agg #[.int .i64 D, .int .i64 S, .int .i64 V, .int .i64 it, .int .i64 ii, .int .i64 il, .int .i64 si, .int .i64 di, .int .i64 kd, .int .i64 a0, .int .i64 a1, .int .i64 a2, .int .i64 a3, .int .i64 a4, .int .i64 a5, .string gB], .int .i64 0]) ∧ Below w.heap.size w w' := by
  go_enter Try.func20, Try.ntmps20
  go_wp2_with fail
  have k0 : Below w.heap.size w (w.alloc (.cells #[.int .i64 0, .int .i64 0, .int .i64 0, .int .i64 0, .int .i64 0, .int .i64 0, .int .i64 0, .int .i64 0, .int .i64 0, .int .i64 0, .int .i64 0, .int .i64 0, .int .i64 0, .int .i64 0, .int .i64 0, .string ⟨#[]⟩] 31)) := by go_grown
  have bl0 : w.heap.size < (w.alloc (.cells #[.int .i64 0, .int .i64 0, .int .i64 0, .int .i64 0, .int .i64 0, .int .i64 0, .int .i64 0, .int .i64 0, .int .i64 0, .int .i64 0, .int .i64 0, .int .i64 0, .int .i64 0, .int .i64 0, .int .i64 0, .string ⟨#[]⟩] 31)).heap.size := by go_size
  have hk0 : Blk (w.alloc (.cells #[.int .i64 0, .int .i64 0, .int .i64 0, .int .i64 0, .int .i64 0, .int .i64 0, .int .i64 0, .int .i64 0, .int .i64 0, .int .i64 0, .int .i64 0, .int .i64 0, .int .i64 0, .int .i64 0, .int .i64 0, .string ⟨#[]⟩] 31)) (w.heap.size) 31 [.int .i64 0, .int .i64 0, .int .i64 0, .int .i64 0, .int .i64 0, .int .i64 0, .int .i64 0, .int .i64 0, .int .i64 0, .int .i64 0, .int .i64 0, .int .i64 0, .int .i64 0, .int .i64 0, .int .i64 0, .string ⟨#[]⟩] := by simpa using Blk.new w 31 [.int .i64 0, .int .i64 0, .int .i64 0, .int .i64 0, .int .i64 0, .int .i64 0, .int .i64 0, .int .i64 0, .int .i64 0, .int .i64 0, .int .i64 0, .int .i64 0, .int .i64 0, .int .i64 0, .int .i64 0, .string ⟨#[]⟩]
  have p0 := k0.size
  generalize hW0 : (w.alloc (.cells #[.int .i64 0, .int .i64 0, .int .i64 0, .int .i64 0, .int .i64 0, .int .i64 0, .int .i64 0, .int .i64 0, .int .i64 0, .int .i64 0, .int .i64 0, .int .i64 0, .int .i64 0, .int .i64 0, .int .i64 0, .string ⟨#[]⟩] 31)) = w0 at *
  clear hW0
  refine (hE _).mono ?_
  rintro e w1 ⟨rfl, hb⟩
  have k1 : Below w.heap.size w w1 := ext_step k0 (by omega) hb
  have p1 := hb.size
  replace hk0 := hk0.ext hb
  have bl0 := Nat.lt_of_lt_of_le bl0 hb.size
  clear hb
  go_wp2_with fail
  obtain ⟨w2, hW0⟩ : ∃ W, W = (w1.alloc (.cells #[.int .i64 D, .int .i64 S, .int .i64 V, .int .i64 2048, .string B] 99)) := ⟨_, rfl⟩
  have hb : Below w1.heap.size w1 w2 := by rw [hW0]; go_grown
  have bl1 : w1.heap.size < w2.heap.size := by rw [hW0]; go_size
  have hk1 : Blk w2 (w1.heap.size) 99 [.int .i64 D, .int .i64 S, .int .i64 V, .int .i64 2048, .string B] := by rw [hW0]; exact Blk.new _ _ _
  rw [← hW0]
  clear hW0
  have k2 := ext_step k1 (by omega) hb
  have p2 := hb.size
  replace hk0 := hk0.ext hb
  have bl0 := Nat.lt_of_lt_of_le bl0 hb.size
  clear hb
  refine (hI _).mono ?_
  rintro e w3 ⟨rfl, hb⟩
  have k3 : Below w.heap.size w w3 := ext_step k2 (by omega) hb
  have p3 := hb.size
  replace hk0 := hk0.ext hb
  replace hk1 := hk1.ext hb
  have bl0 := Nat.lt_of_lt_of_le bl0 hb.size
  have bl1 := Nat.lt_of_lt_of_le bl1 hb.size
  clear hb
  go_wp2_with fail
  obtain ⟨w4, hW0⟩ : ∃ W, W = (w3.alloc (.cells #[.int .i64 it, .int .i64 ii, .int .i64 il, .int .i64 kd, .int .i64 si, .int .i64 di, .string G] 110)) := ⟨_, rfl⟩
  have hb : Below w3.heap.size w3 w4 := by rw [hW0]; go_grown
  have bl2 : w3.heap.size < w4.heap.size := by rw [hW0]; go_size
  have hk2 : Blk w4 (w3.heap.size) 110 [.int .i64 it, .int .i64 ii, .int .i64 il, .int .i64 kd, .int .i64 si, .int .i64 di, .string G] := by rw [hW0]; exact Blk.new _ _ _
  rw [← hW0]
  clear hW0
  have k4 := ext_step k3 (by omega) hb
  have p4 := hb.size
  replace hk0 := hk0.ext hb
  replace hk1 := hk1.ext hb
  have bl0 := Nat.lt_of_lt_of_le bl0 hb.size
  have bl1 := Nat.lt_of_lt_of_le bl1 hb.size
  clear hb
  refine (hG _).mono ?_
  rintro e w5 ⟨rfl, hb⟩
  have k5 : Below w.heap.size w w5 := ext_step k4 (by omega) hb
  have p5 := hb.size
  replace hk0 := hk0.ext hb
  replace hk1 := hk1.ext hb
  replace hk2 := hk2.ext hb
  have bl0 := Nat.lt_of_lt_of_le bl0 hb.size
  have bl1 := Nat.lt_of_lt_of_le bl1 hb.size
  have bl2 := Nat.lt_of_lt_of_le bl2 hb.size
  clear hb
  go_upto_region 10 with fail
  obtain ⟨w6, hW0⟩ : ∃ W, W = (w5.alloc (.cells #[.int .i64 kd, .int .i64 a0, .int .i64 a1, .int .i64 a2, .int .i64 a3, .int .i64 a4, .int .i64 a5, .string gB] 29)) := ⟨_, rfl⟩
  have hb : Below w5.heap.size w5 w6 := by rw [hW0]; go_grown
  have bl3 : w5.heap.size < w6.heap.size := by rw [hW0]; go_size
  have hk3 : Blk w6 (w5.heap.size) 29 [.int .i64 kd, .int .i64 a0, .int .i64 a1, .int .i64 a2, .int .i64 a3, .int .i64 a4, .int .i64 a5, .string gB] := by rw [hW0]; exact Blk.new _ _ _
  rw [← hW0]
  clear hW0
  have k6 := ext_step k5 (by omega) hb
  have p6 := hb.size
  replace hk0 := hk0.ext hb
  replace hk1 := hk1.ext hb
  replace hk2 := hk2.ext hb
  have bl0 := Nat.lt_of_lt_of_le bl0 hb.size
  have bl1 := Nat.lt_of_lt_of_le bl1 hb.size
  have bl2 := Nat.lt_of_lt_of_le bl2 hb.size
  clear hb
  have bx1_0 := hk1.at_ 0 _ rfl
  have bx1_1 := hk1.at_ 1 _ rfl
  have bx1_2 := hk1.at_ 2 _ rfl
  have bx1_3 := hk1.at_ 3 _ rfl
  have bx1_4 := hk1.at_ 4 _ rfl
  have bx2_0 := hk2.at_ 0 _ rfl
  have bx2_1 := hk2.at_ 1 _ rfl
  have bx2_2 := hk2.at_ 2 _ rfl
  have bx2_3 := hk2.at_ 3 _ rfl
  have bx2_4 := hk2.at_ 4 _ rfl
  have bx2_5 := hk2.at_ 5 _ rfl
  have bx2_6 := hk2.at_ 6 _ rfl
  have bx3_0 := hk3.at_ 0 _ rfl
  have bx3_1 := hk3.at_ 1 _ rfl
  have bx3_2 := hk3.at_ 2 _ rfl
  have bx3_3 := hk3.at_ 3 _ rfl
  have bx3_4 := hk3.at_ 4 _ rfl
  have bx3_5 := hk3.at_ 5 _ rfl
  have bx3_6 := hk3.at_ 6 _ rfl
  have bx3_7 := hk3.at_ 7 _ rfl
  go_wp2_with fail
  obtain ⟨w7, hW0⟩ : ∃ W, W = (w6.alloc (.cells #[.int .i64 D, .int .i64 S, .int .i64 V, .int .i64 it, .int .i64 ii, .int .i64 il, .int .i64 si, .int .i64 di, .int .i64 kd, .int .i64 a0, .int .i64 a1, .int .i64 a2, .int .i64 a3, .int .i64 a4, .int .i64 a5, .string gB] 31)) := ⟨_, rfl⟩
  have hb : Below w6.heap.size w6 w7 := by rw [hW0]; go_grown
  have bl4 : w6.heap.size < w7.heap.size := by rw [hW0]; go_size
  have hk4 : Blk w7 (w6.heap.size) 31 [.int .i64 D, .int .i64 S, .int .i64 V, .int .i64 it, .int .i64 ii, .int .i64 il, .int .i64 si, .int .i64 di, .int .i64 kd, .int .i64 a0, .int .i64 a1, .int .i64 a2, .int .i64 a3, .int .i64 a4, .int .i64 a5, .string gB] := by rw [hW0]; exact Blk.new _ _ _
  rw [← hW0]
  clear hW0
  have k7 := ext_step k6 (by omega) hb
  have p7 := hb.size
  replace hk0 := hk0.ext hb
  replace hk1 := hk1.ext hb
  replace hk2 := hk2.ext hb
  replace hk3 := hk3.ext hb
  clear bx1_0 bx1_1 bx1_2 bx1_3 bx1_4 bx2_0 bx2_1 bx2_2 bx2_3 bx2_4 bx2_5 bx2_6 bx3_0 bx3_1 bx3_2 bx3_3 bx3_4 bx3_5 bx3_6 bx3_7
  have bl0 := Nat.lt_of_lt_of_le bl0 hb.size
  have bl1 := Nat.lt_of_lt_of_le bl1 hb.size
  have bl2 := Nat.lt_of_lt_of_le bl2 hb.size
  have bl3 := Nat.lt_of_lt_of_le bl3 hb.size
  clear hb
  clear  hk1 hk2 hk3
  refine (hS _).mono ?_
  rintro e w8 ⟨rfl, hb⟩
  have k8 : Below w.heap.size w w8 := ext_step k7 (by omega) hb
  have p8 := hb.size
  replace hk0 := hk0.ext hb
  replace hk4 := hk4.ext hb
  have bl0 := Nat.lt_of_lt_of_le bl0 hb.size
  have bl1 := Nat.lt_of_lt_of_le bl1 hb.size
  have bl2 := Nat.lt_of_lt_of_le bl2 hb.size
  have bl3 := Nat.lt_of_lt_of_le bl3 hb.size
  have bl4 := Nat.lt_of_lt_of_le bl4 hb.size
  clear hb
  have bx4_0 := hk4.at_ 0 _ rfl
  have bx4_1 := hk4.at_ 1 _ rfl
  have bx4_2 := hk4.at_ 2 _ rfl
  have bx4_3 := hk4.at_ 3 _ rfl
  have bx4_4 := hk4.at_ 4 _ rfl
  have bx4_5 := hk4.at_ 5 _ rfl
  have bx4_6 := hk4.at_ 6 _ rfl
  have bx4_7 := hk4.at_ 7 _ rfl
  have bx4_8 := hk4.at_ 8 _ rfl
  have bx4_9 := hk4.at_ 9 _ rfl
  have bx4_10 := hk4.at_ 10 _ rfl
  have bx4_11 := hk4.at_ 11 _ rfl
  have bx4_12 := hk4.at_ 12 _ rfl
  have bx4_13 := hk4.at_ 13 _ rfl
  have bx4_14 := hk4.at_ 14 _ rfl
  have bx4_15 := hk4.at_ 15 _ rfl
  have bx0_0 := hk0.at_ 0 _ rfl
  have fz0_0 := hk0.frozen 0
  have bx0_1 := hk0.at_ 1 _ rfl
  have fz0_1 := hk0.frozen 1
  have bx0_2 := hk0.at_ 2 _ rfl
  have fz0_2 := hk0.frozen 2
  have bx0_3 := hk0.at_ 3 _ rfl
  have fz0_3 := hk0.frozen 3
  have bx0_4 := hk0.at_ 4 _ rfl
  have fz0_4 := hk0.frozen 4
  have bx0_5 := hk0.at_ 5 _ rfl
  have fz0_5 := hk0.frozen 5
  have bx0_6 := hk0.at_ 6 _ rfl
  have fz0_6 := hk0.frozen 6
  have bx0_7 := hk0.at_ 7 _ rfl
  have fz0_7 := hk0.frozen 7
  have bx0_8 := hk0.at_ 8 _ rfl
  have fz0_8 := hk0.frozen 8
  have bx0_9 := hk0.at_ 9 _ rfl
  have fz0_9 := hk0.frozen 9
  have bx0_10 := hk0.at_ 10 _ rfl
  have fz0_10 := hk0.frozen 10
  have bx0_11 := hk0.at_ 11 _ rfl
  have fz0_11 := hk0.frozen 11
  have bx0_12 := hk0.at_ 12 _ rfl
  have fz0_12 := hk0.frozen 12
  have bx0_13 := hk0.at_ 13 _ rfl
  have fz0_13 := hk0.frozen 13
  have bx0_14 := hk0.at_ 14 _ rfl
  have fz0_14 := hk0.frozen 14
  have bx0_15 := hk0.at_ 15 _ rfl
  have fz0_15 := hk0.frozen 15
  go_wp2_with fail
  clear bx4_0 bx4_1 bx4_2 bx4_3 bx4_4 bx4_5 bx4_6 bx4_7 bx4_8 bx4_9 bx4_10 bx4_11 bx4_12 bx4_13 bx4_14 bx4_15 hk4
  have hcc := ChgA.refl (w.heap.size) w8
  obtain ⟨w9_0, hW0⟩ : ∃ W, W = w8.setCell ⟨w.heap.size, 0, none⟩ (.int .i64 D) := ⟨_, rfl⟩
  replace hcc : ChgA (w.heap.size) w8 w9_0 := by rw [hW0]; exact hcc.set _ _
  replace hk0 : Blk w9_0 (w.heap.size) 31 [.int .i64 D, .int .i64 0, .int .i64 0, .int .i64 0, .int .i64 0, .int .i64 0, .int .i64 0, .int .i64 0, .int .i64 0, .int .i64 0, .int .i64 0, .int .i64 0, .int .i64 0, .int .i64 0, .int .i64 0, .string ⟨#[]⟩] := by rw [hW0]; exact hk0.set_ 0 _
  rw [← hW0]
  clear hW0
  obtain ⟨w9_1, hW0⟩ : ∃ W, W = w9_0.setCell ⟨w.heap.size, 1, none⟩ (.int .i64 S) := ⟨_, rfl⟩
  replace hcc : ChgA (w.heap.size) w8 w9_1 := by rw [hW0]; exact hcc.set _ _
  replace hk0 : Blk w9_1 (w.heap.size) 31 [.int .i64 D, .int .i64 S, .int .i64 0, .int .i64 0, .int .i64 0, .int .i64 0, .int .i64 0, .int .i64 0, .int .i64 0, .int .i64 0, .int .i64 0, .int .i64 0, .int .i64 0, .int .i64 0, .int .i64 0, .string ⟨#[]⟩] := by rw [hW0]; exact hk0.set_ 1 _
  rw [← hW0]
  clear hW0
  obtain ⟨w9_2, hW0⟩ : ∃ W, W = w9_1.setCell ⟨w.heap.size, 2, none⟩ (.int .i64 V) := ⟨_, rfl⟩
  replace hcc : ChgA (w.heap.size) w8 w9_2 := by rw [hW0]; exact hcc.set _ _
  replace hk0 : Blk w9_2 (w.heap.size) 31 [.int .i64 D, .int .i64 S, .int .i64 V, .int .i64 0, .int .i64 0, .int .i64 0, .int .i64 0, .int .i64 0, .int .i64 0, .int .i64 0, .int .i64 0, .int .i64 0, .int .i64 0, .int .i64 0, .int .i64 0, .string ⟨#[]⟩] := by rw [hW0]; exact hk0.set_ 2 _
  rw [← hW0]
  clear hW0
  obtain ⟨w9_3, hW0⟩ : ∃ W, W = w9_2.setCell ⟨w.heap.size, 3, none⟩ (.int .i64 it) := ⟨_, rfl⟩
  replace hcc : ChgA (w.heap.size) w8 w9_3 := by rw [hW0]; exact hcc.set _ _
  replace hk0 : Blk w9_3 (w.heap.size) 31 [.int .i64 D, .int .i64 S, .int .i64 V, .int .i64 it, .int .i64 0, .int .i64 0, .int .i64 0, .int .i64 0, .int .i64 0, .int .i64 0, .int .i64 0, .int .i64 0, .int .i64 0, .int .i64 0, .int .i64 0, .string ⟨#[]⟩] := by rw [hW0]; exact hk0.set_ 3 _
  rw [← hW0]
  clear hW0
  obtain ⟨w9_4, hW0⟩ : ∃ W, W = w9_3.setCell ⟨w.heap.size, 4, none⟩ (.int .i64 ii) := ⟨_, rfl⟩
  replace hcc : ChgA (w.heap.size) w8 w9_4 := by rw [hW0]; exact hcc.set _ _
  replace hk0 : Blk w9_4 (w.heap.size) 31 [.int .i64 D, .int .i64 S, .int .i64 V, .int .i64 it, .int .i64 ii, .int .i64 0, .int .i64 0, .int .i64 0, .int .i64 0, .int .i64 0, .int .i64 0, .int .i64 0, .int .i64 0, .int .i64 0, .int .i64 0, .string ⟨#[]⟩] := by rw [hW0]; exact hk0.set_ 4 _
  rw [← hW0]
  clear hW0
  obtain ⟨w9_5, hW0⟩ : ∃ W, W = w9_4.setCell ⟨w.heap.size, 5, none⟩ (.int .i64 il) := ⟨_, rfl⟩
  replace hcc : ChgA (w.heap.size) w8 w9_5 := by rw [hW0]; exact hcc.set _ _
  replace hk0 : Blk w9_5 (w.heap.size) 31 [.int .i64 D, .int .i64 S, .int .i64 V, .int .i64 it, .int .i64 ii, .int .i64 il, .int .i64 0, .int .i64 0, .int .i64 0, .int .i64 0, .int .i64 0, .int .i64 0, .int .i64 0, .int .i64 0, .int .i64 0, .string ⟨#[]⟩] := by rw [hW0]; exact hk0.set_ 5 _
  rw [← hW0]
  clear hW0
  obtain ⟨w9_6, hW0⟩ : ∃ W, W = w9_5.setCell ⟨w.heap.size, 6, none⟩ (.int .i64 si) := ⟨_, rfl⟩
  replace hcc : ChgA (w.heap.size) w8 w9_6 := by rw [hW0]; exact hcc.set _ _
  replace hk0 : Blk w9_6 (w.heap.size) 31 [.int .i64 D, .int .i64 S, .int .i64 V, .int .i64 it, .int .i64 ii, .int .i64 il, .int .i64 si, .int .i64 0, .int .i64 0, .int .i64 0, .int .i64 0, .int .i64 0, .int .i64 0, .int .i64 0, .int .i64 0, .string ⟨#[]⟩] := by rw [hW0]; exact hk0.set_ 6 _
  rw [← hW0]
  clear hW0
  obtain ⟨w9_7, hW0⟩ : ∃ W, W = w9_6.setCell ⟨w.heap.size, 7, none⟩ (.int .i64 di) := ⟨_, rfl⟩
  replace hcc : ChgA (w.heap.size) w8 w9_7 := by rw [hW0]; exact hcc.set _ _
  replace hk0 : Blk w9_7 (w.heap.size) 31 [.int .i64 D, .int .i64 S, .int .i64 V, .int .i64 it, .int .i64 ii, .int .i64 il, .int .i64 si, .int .i64 di, .int .i64 0, .int .i64 0, .int .i64 0, .int .i64 0, .int .i64 0, .int .i64 0, .int .i64 0, .string ⟨#[]⟩] := by rw [hW0]; exact hk0.set_ 7 _
  rw [← hW0]
  clear hW0
  obtain ⟨w9_8, hW0⟩ : ∃ W, W = w9_7.setCell ⟨w.heap.size, 8, none⟩ (.int .i64 kd) := ⟨_, rfl⟩
  replace hcc : ChgA (w.heap.size) w8 w9_8 := by rw [hW0]; exact hcc.set _ _
  replace hk0 : Blk w9_8 (w.heap.size) 31 [.int .i64 D, .int .i64 S, .int .i64 V, .int .i64 it, .int .i64 ii, .int .i64 il, .int .i64 si, .int .i64 di, .int .i64 kd, .int .i64 0, .int .i64 0, .int .i64 0, .int .i64 0, .int .i64 0, .int .i64 0, .string ⟨#[]⟩] := by rw [hW0]; exact hk0.set_ 8 _
  rw [← hW0]
  clear hW0
  obtain ⟨w9_9, hW0⟩ : ∃ W, W = w9_8.setCell ⟨w.heap.size, 9, none⟩ (.int .i64 a0) := ⟨_, rfl⟩
  replace hcc : ChgA (w.heap.size) w8 w9_9 := by rw [hW0]; exact hcc.set _ _
  replace hk0 : Blk w9_9 (w.heap.size) 31 [.int .i64 D, .int .i64 S, .int .i64 V, .int .i64 it, .int .i64 ii, .int .i64 il, .int .i64 si, .int .i64 di, .int .i64 kd, .int .i64 a0, .int .i64 0, .int .i64 0, .int .i64 0, .int .i64 0, .int .i64 0, .string ⟨#[]⟩] := by rw [hW0]; exact hk0.set_ 9 _
  rw [← hW0]
  clear hW0
  obtain ⟨w9_10, hW0⟩ : ∃ W, W = w9_9.setCell ⟨w.heap.size, 10, none⟩ (.int .i64 a1) := ⟨_, rfl⟩
  replace hcc : ChgA (w.heap.size) w8 w9_10 := by rw [hW0]; exact hcc.set _ _
  replace hk0 : Blk w9_10 (w.heap.size) 31 [.int .i64 D, .int .i64 S, .int .i64 V, .int .i64 it, .int .i64 ii, .int .i64 il, .int .i64 si, .int .i64 di, .int .i64 kd, .int .i64 a0, .int .i64 a1, .int .i64 0, .int .i64 0, .int .i64 0, .int .i64 0, .string ⟨#[]⟩] := by rw [hW0]; exact hk0.set_ 10 _
  rw [← hW0]
  clear hW0
  obtain ⟨w9_11, hW0⟩ : ∃ W, W = w9_10.setCell ⟨w.heap.size, 11, none⟩ (.int .i64 a2) := ⟨_, rfl⟩
  replace hcc : ChgA (w.heap.size) w8 w9_11 := by rw [hW0]; exact hcc.set _ _
  replace hk0 : Blk w9_11 (w.heap.size) 31 [.int .i64 D, .int .i64 S, .int .i64 V, .int .i64 it, .int .i64 ii, .int .i64 il, .int .i64 si, .int .i64 di, .int .i64 kd, .int .i64 a0, .int .i64 a1, .int .i64 a2, .int .i64 0, .int .i64 0, .int .i64 0, .string ⟨#[]⟩] := by rw [hW0]; exact hk0.set_ 11 _
  rw [← hW0]
  clear hW0
  obtain ⟨w9_12, hW0⟩ : ∃ W, W = w9_11.setCell ⟨w.heap.size, 12, none⟩ (.int .i64 a3) := ⟨_, rfl⟩
  replace hcc : ChgA (w.heap.size) w8 w9_12 := by rw [hW0]; exact hcc.set _ _
  replace hk0 : Blk w9_12 (w.heap.size) 31 [.int .i64 D, .int .i64 S, .int .i64 V, .int .i64 it, .int .i64 ii, .int .i64 il, .int .i64 si, .int .i64 di, .int .i64 kd, .int .i64 a0, .int .i64 a1, .int .i64 a2, .int .i64 a3, .int .i64 0, .int .i64 0, .string ⟨#[]⟩] := by rw [hW0]; exact hk0.set_ 12 _
  rw [← hW0]
  clear hW0
  obtain ⟨w9_13, hW0⟩ : ∃ W, W = w9_12.setCell ⟨w.heap.size, 13, none⟩ (.int .i64 a4) := ⟨_, rfl⟩
  replace hcc : ChgA (w.heap.size) w8 w9_13 := by rw [hW0]; exact hcc.set _ _
  replace hk0 : Blk w9_13 (w.heap.size) 31 [.int .i64 D, .int .i64 S, .int .i64 V, .int .i64 it, .int .i64 ii, .int .i64 il, .int .i64 si, .int .i64 di, .int .i64 kd, .int .i64 a0, .int .i64 a1, .int .i64 a2, .int .i64 a3, .int .i64 a4, .int .i64 0, .string ⟨#[]⟩] := by rw [hW0]; exact hk0.set_ 13 _
  rw [← hW0]
  clear hW0
  obtain ⟨w9_14, hW0⟩ : ∃ W, W = w9_13.setCell ⟨w.heap.size, 14, none⟩ (.int .i64 a5) := ⟨_, rfl⟩
  replace hcc : ChgA (w.heap.size) w8 w9_14 := by rw [hW0]; exact hcc.set _ _
  replace hk0 : Blk w9_14 (w.heap.size) 31 [.int .i64 D, .int .i64 S, .int .i64 V, .int .i64 it, .int .i64 ii, .int .i64 il, .int .i64 si, .int .i64 di, .int .i64 kd, .int .i64 a0, .int .i64 a1, .int .i64 a2, .int .i64 a3, .int .i64 a4, .int .i64 a5, .string ⟨#[]⟩] := by rw [hW0]; exact hk0.set_ 14 _
  rw [← hW0]
  clear hW0
  obtain ⟨w9, hW0⟩ : ∃ W, W = w9_14.setCell ⟨w.heap.size, 15, none⟩ (.string gB) := ⟨_, rfl⟩
  replace hcc : ChgA (w.heap.size) w8 w9 := by rw [hW0]; exact hcc.set _ _
  replace hk0 : Blk w9 (w.heap.size) 31 [.int .i64 D, .int .i64 S, .int .i64 V, .int .i64 it, .int .i64 ii, .int .i64 il, .int .i64 si, .int .i64 di, .int .i64 kd, .int .i64 a0, .int .i64 a1, .int .i64 a2, .int .i64 a3, .int .i64 a4, .int .i64 a5, .string gB] := by rw [hW0]; exact hk0.set_ 15 _
  rw [← hW0]
  clear hW0
  have hc := hcc
  have k9 := hc.below (by omega) k8
  have p9 := hc.size
  replace bl0 := Nat.lt_of_lt_of_le bl0 (Nat.le_of_eq p9.symm)
  replace bl1 := Nat.lt_of_lt_of_le bl1 (Nat.le_of_eq p9.symm)
  replace bl2 := Nat.lt_of_lt_of_le bl2 (Nat.le_of_eq p9.symm)
  replace bl3 := Nat.lt_of_lt_of_le bl3 (Nat.le_of_eq p9.symm)
  replace bl4 := Nat.lt_of_lt_of_le bl4 (Nat.le_of_eq p9.symm)
  clear hc hcc
  clear bx0_0 fz0_0 bx0_1 fz0_1 bx0_2 fz0_2 bx0_3 fz0_3 bx0_4 fz0_4 bx0_5 fz0_5 bx0_6 fz0_6 bx0_7 fz0_7 bx0_8 fz0_8 bx0_9 fz0_9 bx0_10 fz0_10 bx0_11 fz0_11 bx0_12 fz0_12 bx0_13 fz0_13 bx0_14 fz0_14 bx0_15 fz0_15
  have hv := loadVar_blk (P := Try.prog) hk0 (n := 16) rfl (by simp [go_sem]) (by simp [go_sem])
  refine bodyPost_ret (v := .tuple #[.agg #[.int .i64 D, .int .i64 S, .int .i64 V, .int .i64 it, .int .i64 ii, .int .i64 il, .int .i64 si, .int .i64 di, .int .i64 kd, .int .i64 a0, .int .i64 a1, .int .i64 a2, .int .i64 a3, .int .i64 a4, .int .i64 a5, .string gB], .int .i64 0]) (by simp [results, Try.results20, asAddr, Result.andThen, hv]) rfl ?_
  exact ⟨rfl, k9⟩
set_option maxRecDepth 100000 in
set_option maxHeartbeats 4000000 in
theorem implReadImage_c (s : ByteArray) (w : World) (hs : s.size ≤ 1048576) :
    Calls Try.prog 20 #[.string s] w fun e w' => e = .returned (.tuple #[.agg #[.int .i64 (rdQ s).dmac, .int .i64 (rdQ s).smac, .int .i64 (rdQ s).vlan, .int .i64 (rdQ s).tos, .int .i64 (rdQ s).id, .int .i64 (rdQ s).ttl, .int .i64 (rdQ s).sip, .int .i64 (rdQ s).dip, .int .i64 (rdQ s).seg_kind, .int .i64 (rdQ s).seg_sport, .int .i64 (rdQ s).seg_dport, .int .i64 (rdQ s).seg_seq, .int .i64 (rdQ s).seg_ack, .int .i64 (rdQ s).seg_flags, .int .i64 (rdQ s).seg_win, .string (rdQ s).seg_body], .int .i64 (rdC s)]) ∧ Below w.heap.size w w' := by
  have hE := fun u => implParseEth_c s u hs
  cases hok0 : okE s
  · have hc : rdC s = 2 := by rw [rdC, if_neg (by rw [hok0]; simp)]
    have hq : rdQ s = zeroP := by rw [rdQ, hc]; rfl
    rw [hc, hq]
    dsimp only [zeroP]
    clear hc hq
    simp only [hok0, ethI_no hok0, ethT_no hok0] at hE
    exact implRead_e0 w hE
  · have hBz := okE_bd hok0
    simp only [hok0, ethI_yes hok0, ethT_yes hok0] at hE
    have hpd : rdP s = rdP s := rfl
    conv at hpd => rhs; unfold rdP
    obtain ⟨D, e_D⟩ : ∃ x, dstE s = x := ⟨_, rfl⟩
    obtain ⟨S, e_S⟩ : ∃ x, srcE s = x := ⟨_, rfl⟩
    obtain ⟨V, e_V⟩ : ∃ x, vlE s = x := ⟨_, rfl⟩
    obtain ⟨T, e_T⟩ : ∃ x, tyE s = x := ⟨_, rfl⟩
    obtain ⟨B, e_B⟩ : ∃ x, bdE s = x := ⟨_, rfl⟩
    simp only [e_D, e_S, e_V, e_T, e_B] at hE hBz hpd
    by_cases hty : T = 2048
    · subst hty
      have hI := fun u => implParseIp_c B u (by omega)
      cases hok1 : okP B
      · have hc : rdC s = 3 := by rw [rdC, if_pos ⟨hok0, e_T⟩, e_B, if_neg (by rw [hok1]; decide)]
        have hq : rdQ s = zeroP := by rw [rdQ, hc]; rfl
        rw [hc, hq]
        dsimp only [zeroP]
        clear hc hq
        simp only [hok1, ipI_no hok1, ipT_no hok1] at hI
        clear hok1 hok0 hpd e_D e_S e_V e_T e_B
        exact implRead_i w hE hI
      · obtain ⟨hsi, hdi, hGz⟩ := okP_t hok1
        simp only [hok1, ipI_yes hok1, ipT_yes hok1] at hI
        obtain ⟨it, e_it⟩ : ∃ x, byt B 1 = x := ⟨_, rfl⟩
        obtain ⟨ii, e_ii⟩ : ∃ x, g16 B 4 = x := ⟨_, rfl⟩
        obtain ⟨il, e_il⟩ : ∃ x, byt B 8 = x := ⟨_, rfl⟩
        obtain ⟨kd, e_kd⟩ : ∃ x, byt B 9 = x := ⟨_, rfl⟩
        obtain ⟨si, e_si⟩ : ∃ x, g32 B 12 = x := ⟨_, rfl⟩
        obtain ⟨di, e_di⟩ : ∃ x, g32 B 16 = x := ⟨_, rfl⟩
        obtain ⟨G, e_G⟩ : ∃ x, bdP B = x := ⟨_, rfl⟩
        simp only [e_it, e_ii, e_il, e_kd, e_si, e_di, e_G] at hI hsi hdi hGz hpd
        have hG := fun u => implParseSegment_c si di kd G u (by omega) hsi hdi
        cases hok2 : okR si di kd G
        · have hc : rdC s = 4 := by rw [rdC, if_pos ⟨hok0, e_T⟩, e_B, if_pos hok1, e_si, e_di, e_kd, e_G, if_neg (by rw [hok2]; decide)]
          have hq : rdQ s = zeroP := by rw [rdQ, hc]; rfl
          rw [hc, hq]
          dsimp only [zeroP]
          clear hc hq
          simp only [hok2, sgI_no hok2, sgT_no hok2] at hG
          clear hok2 hok1 hok0 hpd e_D e_S e_V e_T e_B e_it e_ii e_il e_kd e_si e_di e_G
          exact implRead_g w hE hI hG
        · have hbz : (bdR kd G).size ≤ 1048576 := by unfold bdR; split <;> (rw [ByteArray.size_extract]; omega)
          simp only [hok2, sgI_yes hok2, sgT_yes hok2] at hG
          obtain ⟨a0, e_a0⟩ : ∃ x, g16 G 0 = x := ⟨_, rfl⟩
          obtain ⟨a1, e_a1⟩ : ∃ x, g16 G 2 = x := ⟨_, rfl⟩
          obtain ⟨a2, e_a2⟩ : ∃ x, sqR kd G = x := ⟨_, rfl⟩
          obtain ⟨a3, e_a3⟩ : ∃ x, akR kd G = x := ⟨_, rfl⟩
          obtain ⟨a4, e_a4⟩ : ∃ x, flR kd G = x := ⟨_, rfl⟩
          obtain ⟨a5, e_a5⟩ : ∃ x, wnR kd G = x := ⟨_, rfl⟩
          obtain ⟨gB, e_gB⟩ : ∃ x, bdR kd G = x := ⟨_, rfl⟩
          simp only [e_a0, e_a1, e_a2, e_a3, e_a4, e_a5, e_gB] at hG hpd hbz
          have hS := fun u => implSuperOk_c ⟨D, S, V, it, ii, il, si, di, kd, a0, a1, a2, a3, a4, a5, gB⟩ u hbz
          dsimp only at hS
          cases hok3 : superB ⟨D, S, V, it, ii, il, si, di, kd, a0, a1, a2, a3, a4, a5, gB⟩
          · have hc : rdC s = 5 := by rw [rdC, if_pos ⟨hok0, e_T⟩, e_B, if_pos hok1, e_si, e_di, e_kd, e_G, if_pos hok2, hpd, if_neg (by rw [hok3]; decide)]
            have hq : rdQ s = zeroP := by rw [rdQ, hc]; rfl
            rw [hc, hq]
            dsimp only [zeroP]
            clear hc hq
            rw [hok3] at hS
            clear hok3 hok2 hok1 hok0 hpd hbz e_D e_S e_V e_T e_B e_it e_ii e_il e_kd e_si e_di e_G e_a0 e_a1 e_a2 e_a3 e_a4 e_a5 e_gB
            exact implRead_p w hE hI hG hS
          · have hc : rdC s = 0 := by rw [rdC, if_pos ⟨hok0, e_T⟩, e_B, if_pos hok1, e_si, e_di, e_kd, e_G, if_pos hok2, hpd, if_pos hok3]
            have hq : rdQ s = ⟨D, S, V, it, ii, il, si, di, kd, a0, a1, a2, a3, a4, a5, gB⟩ := by rw [rdQ, hc, if_pos rfl, hpd]
            rw [hc, hq]
            dsimp only
            rw [hok3] at hS
            clear hc hq hok3 hok2 hok1 hok0 hpd hbz e_D e_S e_V e_T e_B e_it e_ii e_il e_kd e_si e_di e_G e_a0 e_a1 e_a2 e_a3 e_a4 e_a5 e_gB
            exact implRead_ok w hE hI hG hS
    · have hc : rdC s = 2 := by rw [rdC, if_neg (by rw [e_T]; exact fun h => hty h.2)]
      have hq : rdQ s = zeroP := by rw [rdQ, hc]; rfl
      rw [hc, hq]
      dsimp only [zeroP]
      clear hc hq
      clear hok0 hpd e_D e_S e_V e_T e_B
      exact implRead_e1 w hE hty
end Go.Proofs.Ytifbfmafogmemaa
