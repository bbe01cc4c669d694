/- Contract of the reference's draw l07Packet (bodies up to 40). -/
import Derived.Test.YtkfekgmdjemkbaaDrawPk1
import Derived.Deep.CutRange
import Derived.Test.YtkfekgmdjemkbaaRetB
namespace Go.Proofs.Ytkfekgmdjemkbaa
set_option linter.unusedSimpArgs false
set_option linter.unusedVariables false
open Go.RowKit Go.ChangeShapes Go.WideShapes
set_option maxRecDepth 100000 in
set_option maxHeartbeats 8000000 in
theorem l07Packet40_c (g : Nat) (A : Option Addr) (n c : Nat) (l : List Int) (w : World) (hcur : Cur w g A n c) (hn : l.length = n) (hm : n ≤ 1048576) (hr : Reads w g 1 A n (l.flatMap fun x : Int => [Value.int .u8 x])) (hb : ∀ x ∈ l, 0 ≤ x ∧ x ≤ 255) :
    Calls Try.prog 43 #[.pointer (some ⟨g, 0, none⟩), .int .i64 40] w (DrawPkt 40 g A n c w) := by
  have hlt0 := hcur.lt
  have HN := Lib.hid hn
  clear hn
  go_enter Try.func43, Try.ntmps43
  have q := hcur
  have gg : w.grownBy w (some g) := World.grownBy.refl _ _
  have sz0 : w.heap.size ≤ w.heap.size := Nat.le_refl _
  go_wp2_with fail
  obtain ⟨w1, hW0⟩ : ∃ W, W = w.alloc (.cells #[.int .i64 0, .int .i64 0, .int .i64 0, .int .i64 0, .int .i64 0, .int .i64 0, .int .i64 0, .int .i64 0, .int .i64 0, .int .i64 0, .int .i64 0, .int .i64 0, .int .i64 0, .int .i64 0, .int .i64 0, .string ⟨#[]⟩] 41) := ⟨_, rfl⟩
  have lo0 : w.heap.size ≤ w.heap.size := by omega
  have ne0 : some g ≠ some (w.heap.size) := fun e => by injection e with e; omega
  have hk0 : Blk w1 (w.heap.size) 41 [.int .i64 0, .int .i64 0, .int .i64 0, .int .i64 0, .int .i64 0, .int .i64 0, .int .i64 0, .int .i64 0, .int .i64 0, .int .i64 0, .int .i64 0, .int .i64 0, .int .i64 0, .int .i64 0, .int .i64 0, .string ⟨#[]⟩] := by rw [hW0]; exact Blk.new _ _ _
  replace q : Cur w1 g A n c := by rw [hW0]; exact q.alloc _
  replace gg : w.grownBy w1 (some g) := by rw [hW0]; exact grown_al gg _
  have bl0 := hk0.lt
  have lw_ : w.heap.size ≤ w1.heap.size := by rw [hW0]; simp
  have ez0 : w1.heap.size = w.heap.size + 1 := by rw [hW0]; simp
  rw [← hW0]
  clear hW0
  have le_ : w.heap.size ≤ w1.heap.size := lw_
  clear sz0 le_
  have sz0 := gg.size
  clear lw_
  obtain ⟨w2, hW0⟩ : ∃ W, W = w1.alloc (.cells #[.int .i64 2, .int .i64 2, .int .i64 2, .int .i64 4, .int .i64 281474976710655] 3) := ⟨_, rfl⟩
  replace hk0 : Blk w2 (w.heap.size) 41 [.int .i64 0, .int .i64 0, .int .i64 0, .int .i64 0, .int .i64 0, .int .i64 0, .int .i64 0, .int .i64 0, .int .i64 0, .int .i64 0, .int .i64 0, .int .i64 0, .int .i64 0, .int .i64 0, .int .i64 0, .string ⟨#[]⟩] := by rw [hW0]; exact hk0.alloc _
  have lo1 : w.heap.size ≤ w.heap.size + 1 := by omega
  have ne1 : some g ≠ some (w.heap.size + 1) := fun e => by injection e with e; omega
  have df0_1 : w.heap.size < w.heap.size + 1 := by omega
  have hk1 : Blk w2 (w.heap.size + 1) 3 [.int .i64 2, .int .i64 2, .int .i64 2, .int .i64 4, .int .i64 281474976710655] := by rw [hW0, ← ez0]; exact Blk.new _ _ _
  replace q : Cur w2 g A n c := by rw [hW0]; exact q.alloc _
  replace gg : w.grownBy w2 (some g) := by rw [hW0]; exact grown_al gg _
  have bl1 := hk1.lt
  have lw_ : w1.heap.size ≤ w2.heap.size := by rw [hW0]; simp
  rw [← hW0]
  clear hW0
  have le_ : w1.heap.size ≤ w2.heap.size := lw_
  replace bl0 := Nat.lt_of_lt_of_le bl0 le_
  clear sz0 le_
  have sz0 := gg.size
  clear lw_
  clear ez0
  refine (l01PickInt_c g A n c l _ q HN.out hm (reads_cur hr gg hlt0) hb _ 5 [2, 2, 2, 4, 281474976710655] hk1 (by omega) rfl (by omega) (by omega)).mono ?_
  rintro e w3 ⟨dm, i_dm, rfl, q1, hh⟩
  replace hk0 := blk_kept hk0 hh ne0
  replace hk1 := blk_kept hk1 hh ne1
  replace gg := grown_trans gg hh
  have le_ : w2.heap.size ≤ w3.heap.size := hh.size
  replace bl0 := Nat.lt_of_lt_of_le bl0 le_
  replace bl1 := Nat.lt_of_lt_of_le bl1 le_
  clear sz0 le_
  have sz0 := gg.size
  replace q := q1
  clear q1 hh
  clear hk1 ne1 bl1 lo1 df0_1
  go_wp2_with fail
  obtain ⟨w4, hW0⟩ : ∃ W, W = w3.alloc (.cells #[.int .i64 6, .int .i64 8] 3) := ⟨_, rfl⟩
  replace hk0 : Blk w4 (w.heap.size) 41 [.int .i64 0, .int .i64 0, .int .i64 0, .int .i64 0, .int .i64 0, .int .i64 0, .int .i64 0, .int .i64 0, .int .i64 0, .int .i64 0, .int .i64 0, .int .i64 0, .int .i64 0, .int .i64 0, .int .i64 0, .string ⟨#[]⟩] := by rw [hW0]; exact hk0.alloc _
  have lo1 : w.heap.size ≤ w3.heap.size := by omega
  have ne1 : some g ≠ some (w3.heap.size) := fun e => by injection e with e; omega
  have df0_1 : w.heap.size < w3.heap.size := by omega
  have hk1 : Blk w4 (w3.heap.size) 3 [.int .i64 6, .int .i64 8] := by rw [hW0]; exact Blk.new _ _ _
  replace q : Cur w4 g A n c := by rw [hW0]; exact q.alloc _
  replace gg : w.grownBy w4 (some g) := by rw [hW0]; exact grown_al gg _
  have bl1 := hk1.lt
  have lw_ : w3.heap.size ≤ w4.heap.size := by rw [hW0]; simp
  rw [← hW0]
  clear hW0
  have le_ : w3.heap.size ≤ w4.heap.size := lw_
  replace bl0 := Nat.lt_of_lt_of_le bl0 le_
  clear sz0 le_
  have sz0 := gg.size
  clear lw_
  refine (l01PickInt_c g A n c l _ q HN.out hm (reads_cur hr gg hlt0) hb _ 2 [6, 8] hk1 (by omega) rfl (by omega) (by omega)).mono ?_
  rintro e w5 ⟨sm, i_sm, rfl, q1, hh⟩
  replace hk0 := blk_kept hk0 hh ne0
  replace hk1 := blk_kept hk1 hh ne1
  replace gg := grown_trans gg hh
  have le_ : w4.heap.size ≤ w5.heap.size := hh.size
  replace bl0 := Nat.lt_of_lt_of_le bl0 le_
  replace bl1 := Nat.lt_of_lt_of_le bl1 le_
  clear sz0 le_
  have sz0 := gg.size
  replace q := q1
  clear q1 hh
  clear hk1 ne1 bl1 lo1 df0_1
  go_wp2_with fail
  obtain ⟨w6, hW0⟩ : ∃ W, W = w5.alloc (.cells #[.int .i64 (-1), .int .i64 (-1), .int .i64 7] 3) := ⟨_, rfl⟩
  replace hk0 : Blk w6 (w.heap.size) 41 [.int .i64 0, .int .i64 0, .int .i64 0, .int .i64 0, .int .i64 0, .int .i64 0, .int .i64 0, .int .i64 0, .int .i64 0, .int .i64 0, .int .i64 0, .int .i64 0, .int .i64 0, .int .i64 0, .int .i64 0, .string ⟨#[]⟩] := by rw [hW0]; exact hk0.alloc _
  have lo1 : w.heap.size ≤ w5.heap.size := by omega
  have ne1 : some g ≠ some (w5.heap.size) := fun e => by injection e with e; omega
  have df0_1 : w.heap.size < w5.heap.size := by omega
  have hk1 : Blk w6 (w5.heap.size) 3 [.int .i64 (-1), .int .i64 (-1), .int .i64 7] := by rw [hW0]; exact Blk.new _ _ _
  replace q : Cur w6 g A n c := by rw [hW0]; exact q.alloc _
  replace gg : w.grownBy w6 (some g) := by rw [hW0]; exact grown_al gg _
  have bl1 := hk1.lt
  have lw_ : w5.heap.size ≤ w6.heap.size := by rw [hW0]; simp
  rw [← hW0]
  clear hW0
  have le_ : w5.heap.size ≤ w6.heap.size := lw_
  replace bl0 := Nat.lt_of_lt_of_le bl0 le_
  clear sz0 le_
  have sz0 := gg.size
  clear lw_
  refine (l01PickInt_c g A n c l _ q HN.out hm (reads_cur hr gg hlt0) hb _ 3 [-1, -1, 7] hk1 (by omega) rfl (by omega) (by omega)).mono ?_
  rintro e w7 ⟨vl, i_vl, rfl, q1, hh⟩
  replace hk0 := blk_kept hk0 hh ne0
  replace hk1 := blk_kept hk1 hh ne1
  replace gg := grown_trans gg hh
  have le_ : w6.heap.size ≤ w7.heap.size := hh.size
  replace bl0 := Nat.lt_of_lt_of_le bl0 le_
  replace bl1 := Nat.lt_of_lt_of_le bl1 le_
  clear sz0 le_
  have sz0 := gg.size
  replace q := q1
  clear q1 hh
  clear hk1 ne1 bl1 lo1 df0_1
  go_wp2_with fail
  obtain ⟨w8, hW0⟩ : ∃ W, W = w7.alloc (.cells #[.int .i64 0, .int .i64 0, .int .i64 255] 3) := ⟨_, rfl⟩
  replace hk0 : Blk w8 (w.heap.size) 41 [.int .i64 0, .int .i64 0, .int .i64 0, .int .i64 0, .int .i64 0, .int .i64 0, .int .i64 0, .int .i64 0, .int .i64 0, .int .i64 0, .int .i64 0, .int .i64 0, .int .i64 0, .int .i64 0, .int .i64 0, .string ⟨#[]⟩] := by rw [hW0]; exact hk0.alloc _
  have lo1 : w.heap.size ≤ w7.heap.size := by omega
  have ne1 : some g ≠ some (w7.heap.size) := fun e => by injection e with e; omega
  have df0_1 : w.heap.size < w7.heap.size := by omega
  have hk1 : Blk w8 (w7.heap.size) 3 [.int .i64 0, .int .i64 0, .int .i64 255] := by rw [hW0]; exact Blk.new _ _ _
  replace q : Cur w8 g A n c := by rw [hW0]; exact q.alloc _
  replace gg : w.grownBy w8 (some g) := by rw [hW0]; exact grown_al gg _
  have bl1 := hk1.lt
  have lw_ : w7.heap.size ≤ w8.heap.size := by rw [hW0]; simp
  rw [← hW0]
  clear hW0
  have le_ : w7.heap.size ≤ w8.heap.size := lw_
  replace bl0 := Nat.lt_of_lt_of_le bl0 le_
  clear sz0 le_
  have sz0 := gg.size
  clear lw_
  refine (l01PickInt_c g A n c l _ q HN.out hm (reads_cur hr gg hlt0) hb _ 3 [0, 0, 255] hk1 (by omega) rfl (by omega) (by omega)).mono ?_
  rintro e w9 ⟨ts, i_ts, rfl, q1, hh⟩
  replace hk0 := blk_kept hk0 hh ne0
  replace hk1 := blk_kept hk1 hh ne1
  replace gg := grown_trans gg hh
  have le_ : w8.heap.size ≤ w9.heap.size := hh.size
  replace bl0 := Nat.lt_of_lt_of_le bl0 le_
  replace bl1 := Nat.lt_of_lt_of_le bl1 le_
  clear sz0 le_
  have sz0 := gg.size
  replace q := q1
  clear q1 hh
  clear hk1 ne1 bl1 lo1 df0_1
  go_wp2_with fail
  obtain ⟨w10, hW0⟩ : ∃ W, W = w9.alloc (.cells #[.int .i64 1, .int .i64 65535, .int .i64 65534] 3) := ⟨_, rfl⟩
  replace hk0 : Blk w10 (w.heap.size) 41 [.int .i64 0, .int .i64 0, .int .i64 0, .int .i64 0, .int .i64 0, .int .i64 0, .int .i64 0, .int .i64 0, .int .i64 0, .int .i64 0, .int .i64 0, .int .i64 0, .int .i64 0, .int .i64 0, .int .i64 0, .string ⟨#[]⟩] := by rw [hW0]; exact hk0.alloc _
  have lo1 : w.heap.size ≤ w9.heap.size := by omega
  have ne1 : some g ≠ some (w9.heap.size) := fun e => by injection e with e; omega
  have df0_1 : w.heap.size < w9.heap.size := by omega
  have hk1 : Blk w10 (w9.heap.size) 3 [.int .i64 1, .int .i64 65535, .int .i64 65534] := by rw [hW0]; exact Blk.new _ _ _
  replace q : Cur w10 g A n c := by rw [hW0]; exact q.alloc _
  replace gg : w.grownBy w10 (some g) := by rw [hW0]; exact grown_al gg _
  have bl1 := hk1.lt
  have lw_ : w9.heap.size ≤ w10.heap.size := by rw [hW0]; simp
  rw [← hW0]
  clear hW0
  have le_ : w9.heap.size ≤ w10.heap.size := lw_
  replace bl0 := Nat.lt_of_lt_of_le bl0 le_
  clear sz0 le_
  have sz0 := gg.size
  clear lw_
  refine (l01PickInt_c g A n c l _ q HN.out hm (reads_cur hr gg hlt0) hb _ 3 [1, 65535, 65534] hk1 (by omega) rfl (by omega) (by omega)).mono ?_
  rintro e w11 ⟨id, i_id, rfl, q1, hh⟩
  replace hk0 := blk_kept hk0 hh ne0
  replace hk1 := blk_kept hk1 hh ne1
  replace gg := grown_trans gg hh
  have le_ : w10.heap.size ≤ w11.heap.size := hh.size
  replace bl0 := Nat.lt_of_lt_of_le bl0 le_
  replace bl1 := Nat.lt_of_lt_of_le bl1 le_
  clear sz0 le_
  have sz0 := gg.size
  replace q := q1
  clear q1 hh
  clear hk1 ne1 bl1 lo1 df0_1
  go_wp2_with fail
  obtain ⟨w12, hW0⟩ : ∃ W, W = w11.alloc (.cells #[.int .i64 64, .int .i64 64, .int .i64 255] 3) := ⟨_, rfl⟩
  replace hk0 : Blk w12 (w.heap.size) 41 [.int .i64 0, .int .i64 0, .int .i64 0, .int .i64 0, .int .i64 0, .int .i64 0, .int .i64 0, .int .i64 0, .int .i64 0, .int .i64 0, .int .i64 0, .int .i64 0, .int .i64 0, .int .i64 0, .int .i64 0, .string ⟨#[]⟩] := by rw [hW0]; exact hk0.alloc _
  have lo1 : w.heap.size ≤ w11.heap.size := by omega
  have ne1 : some g ≠ some (w11.heap.size) := fun e => by injection e with e; omega
  have df0_1 : w.heap.size < w11.heap.size := by omega
  have hk1 : Blk w12 (w11.heap.size) 3 [.int .i64 64, .int .i64 64, .int .i64 255] := by rw [hW0]; exact Blk.new _ _ _
  replace q : Cur w12 g A n c := by rw [hW0]; exact q.alloc _
  replace gg : w.grownBy w12 (some g) := by rw [hW0]; exact grown_al gg _
  have bl1 := hk1.lt
  have lw_ : w11.heap.size ≤ w12.heap.size := by rw [hW0]; simp
  rw [← hW0]
  clear hW0
  have le_ : w11.heap.size ≤ w12.heap.size := lw_
  replace bl0 := Nat.lt_of_lt_of_le bl0 le_
  clear sz0 le_
  have sz0 := gg.size
  clear lw_
  refine (l01PickInt_c g A n c l _ q HN.out hm (reads_cur hr gg hlt0) hb _ 3 [64, 64, 255] hk1 (by omega) rfl (by omega) (by omega)).mono ?_
  rintro e w13 ⟨tl, i_tl, rfl, q1, hh⟩
  replace hk0 := blk_kept hk0 hh ne0
  replace hk1 := blk_kept hk1 hh ne1
  replace gg := grown_trans gg hh
  have le_ : w12.heap.size ≤ w13.heap.size := hh.size
  replace bl0 := Nat.lt_of_lt_of_le bl0 le_
  replace bl1 := Nat.lt_of_lt_of_le bl1 le_
  clear sz0 le_
  have sz0 := gg.size
  replace q := q1
  clear q1 hh
  clear hk1 ne1 bl1 lo1 df0_1
  have h_dm : inB dm 0 281474976710655 = true := by simp only [List.mem_cons, List.not_mem_nil, or_false] at i_dm; exact inBi (by omega) (by omega)
  have h_sm : inB sm 0 281474976710655 = true := by simp only [List.mem_cons, List.not_mem_nil, or_false] at i_sm; exact inBi (by omega) (by omega)
  have h_vl : inB vl (-1) 4095 = true := by simp only [List.mem_cons, List.not_mem_nil, or_false] at i_vl; exact inBi (by omega) (by omega)
  have h_ts : inB ts 0 255 = true := by simp only [List.mem_cons, List.not_mem_nil, or_false] at i_ts; exact inBi (by omega) (by omega)
  have h_id : inB id 0 65535 = true := by simp only [List.mem_cons, List.not_mem_nil, or_false] at i_id; exact inBi (by omega) (by omega)
  have h_tl : inB tl 0 255 = true := by simp only [List.mem_cons, List.not_mem_nil, or_false] at i_tl; exact inBi (by omega) (by omega)
  clear i_dm i_sm i_vl i_ts i_id i_tl
  go_wp2_with fail
  refine (l06Host_c g A n c l _ q HN.out hm (reads_cur hr gg hlt0) hb).mono ?_
  rintro e w14 ⟨si, ⟨si0, si1⟩, rfl, q1, hh⟩
  replace hk0 := blk_kept hk0 hh ne0
  replace gg := grown_trans gg hh
  have le_ : w13.heap.size ≤ w14.heap.size := hh.size
  replace bl0 := Nat.lt_of_lt_of_le bl0 le_
  clear sz0 le_
  have sz0 := gg.size
  replace q := q1
  clear q1 hh
  go_wp2_with fail
  obtain ⟨w15, hW0⟩ : ∃ W, W = w14.alloc (.cells #[.int .i64 dm, .int .i64 sm, .int .i64 vl, .int .i64 ts, .int .i64 id, .int .i64 tl, .int .i64 si, .int .i64 167772161, .int .i64 0, .int .i64 0, .int .i64 0, .int .i64 0, .int .i64 0, .int .i64 0, .int .i64 0, .string ⟨#[]⟩] 41) := ⟨_, rfl⟩
  replace hk0 : Blk w15 (w.heap.size) 41 [.int .i64 0, .int .i64 0, .int .i64 0, .int .i64 0, .int .i64 0, .int .i64 0, .int .i64 0, .int .i64 0, .int .i64 0, .int .i64 0, .int .i64 0, .int .i64 0, .int .i64 0, .int .i64 0, .int .i64 0, .string ⟨#[]⟩] := by rw [hW0]; exact hk0.alloc _
  have lo1 : w.heap.size ≤ w14.heap.size := by omega
  have ne1 : some g ≠ some (w14.heap.size) := fun e => by injection e with e; omega
  have df0_1 : w.heap.size < w14.heap.size := by omega
  have hk1 : Blk w15 (w14.heap.size) 41 [.int .i64 dm, .int .i64 sm, .int .i64 vl, .int .i64 ts, .int .i64 id, .int .i64 tl, .int .i64 si, .int .i64 167772161, .int .i64 0, .int .i64 0, .int .i64 0, .int .i64 0, .int .i64 0, .int .i64 0, .int .i64 0, .string ⟨#[]⟩] := by rw [hW0]; exact Blk.new _ _ _
  replace q : Cur w15 g A n c := by rw [hW0]; exact q.alloc _
  replace gg : w.grownBy w15 (some g) := by rw [hW0]; exact grown_al gg _
  have bl1 := hk1.lt
  have lw_ : w14.heap.size ≤ w15.heap.size := by rw [hW0]; simp
  rw [← hW0]
  clear hW0
  have le_ : w14.heap.size ≤ w15.heap.size := lw_
  replace bl0 := Nat.lt_of_lt_of_le bl0 le_
  clear sz0 le_
  have sz0 := gg.size
  clear lw_
  skip
  refine (l06Segment_c g A n c l _ q HN.out hm (reads_cur hr gg hlt0) hb 40 (by omega) (by omega)).mono ?_
  rintro e w16 ⟨kd, sp, dp, sq, ak, fl, wn, bd, ⟨hsg, hbz, hfl⟩, rfl, q1, hh⟩
  replace hk0 := blk_kept hk0 hh ne0
  replace hk1 := blk_kept hk1 hh ne1
  replace gg := grown_trans gg hh
  have le_ : w15.heap.size ≤ w16.heap.size := hh.size
  replace bl0 := Nat.lt_of_lt_of_le bl0 le_
  replace bl1 := Nat.lt_of_lt_of_le bl1 le_
  clear sz0 le_
  have sz0 := gg.size
  replace q := q1
  clear q1 hh
  have c1_0 := hk1.at_ 0 _ rfl
  have f1_0 := hk1.frozen 0
  have c1_1 := hk1.at_ 1 _ rfl
  have f1_1 := hk1.frozen 1
  have c1_2 := hk1.at_ 2 _ rfl
  have f1_2 := hk1.frozen 2
  have c1_3 := hk1.at_ 3 _ rfl
  have f1_3 := hk1.frozen 3
  have c1_4 := hk1.at_ 4 _ rfl
  have f1_4 := hk1.frozen 4
  have c1_5 := hk1.at_ 5 _ rfl
  have f1_5 := hk1.frozen 5
  have c1_6 := hk1.at_ 6 _ rfl
  have f1_6 := hk1.frozen 6
  have c1_7 := hk1.at_ 7 _ rfl
  have f1_7 := hk1.frozen 7
  have c1_8 := hk1.at_ 8 _ rfl
  have f1_8 := hk1.frozen 8
  have c1_9 := hk1.at_ 9 _ rfl
  have f1_9 := hk1.frozen 9
  have c1_10 := hk1.at_ 10 _ rfl
  have f1_10 := hk1.frozen 10
  have c1_11 := hk1.at_ 11 _ rfl
  have f1_11 := hk1.frozen 11
  have c1_12 := hk1.at_ 12 _ rfl
  have f1_12 := hk1.frozen 12
  have c1_13 := hk1.at_ 13 _ rfl
  have f1_13 := hk1.frozen 13
  have c1_14 := hk1.at_ 14 _ rfl
  have f1_14 := hk1.frozen 14
  have c1_15 := hk1.at_ 15 _ rfl
  have f1_15 := hk1.frozen 15
  go_upto_region 3 with fail
  obtain ⟨w17, hW0⟩ : ∃ W, W = w16.setCell ⟨w14.heap.size, 8, none⟩ (.int .i64 kd) := ⟨_, rfl⟩
  replace hk0 : Blk w17 (w.heap.size) 41 [.int .i64 0, .int .i64 0, .int .i64 0, .int .i64 0, .int .i64 0, .int .i64 0, .int .i64 0, .int .i64 0, .int .i64 0, .int .i64 0, .int .i64 0, .int .i64 0, .int .i64 0, .int .i64 0, .int .i64 0, .string ⟨#[]⟩] := by rw [hW0]; exact hk0.far' (p := ⟨w14.heap.size, 8, none⟩) (show w14.heap.size ≠ w.heap.size by omega) _
  replace hk1 : Blk w17 (w14.heap.size) 41 [.int .i64 dm, .int .i64 sm, .int .i64 vl, .int .i64 ts, .int .i64 id, .int .i64 tl, .int .i64 si, .int .i64 167772161, .int .i64 kd, .int .i64 0, .int .i64 0, .int .i64 0, .int .i64 0, .int .i64 0, .int .i64 0, .string ⟨#[]⟩] := by rw [hW0]; exact hk1.set_ 8 _
  replace q : Cur w17 g A n c := by rw [hW0]; exact cur_fr q (p := ⟨w14.heap.size, 8, none⟩) (show w14.heap.size ≠ g by omega) _
  replace gg : w.grownBy w17 (some g) := by rw [hW0]; exact only_setCell gg (p := ⟨w14.heap.size, 8, none⟩) (.inr (show w.heap.size ≤ w14.heap.size by omega)) _
  have lw_ : w16.heap.size ≤ w17.heap.size := by rw [hW0]; simp
  rw [← hW0]
  clear hW0
  have le_ : w16.heap.size ≤ w17.heap.size := lw_
  replace bl0 := Nat.lt_of_lt_of_le bl0 le_
  replace bl1 := Nat.lt_of_lt_of_le bl1 le_
  clear sz0 le_
  have sz0 := gg.size
  clear lw_
  clear c1_0 f1_0 c1_1 f1_1 c1_2 f1_2 c1_3 f1_3 c1_4 f1_4 c1_5 f1_5 c1_6 f1_6 c1_7 f1_7 c1_8 f1_8 c1_9 f1_9 c1_10 f1_10 c1_11 f1_11 c1_12 f1_12 c1_13 f1_13 c1_14 f1_14 c1_15 f1_15
  obtain ⟨w18, hW0⟩ : ∃ W, W = w17.setCell ⟨w14.heap.size, 9, none⟩ (.int .i64 sp) := ⟨_, rfl⟩
  replace hk0 : Blk w18 (w.heap.size) 41 [.int .i64 0, .int .i64 0, .int .i64 0, .int .i64 0, .int .i64 0, .int .i64 0, .int .i64 0, .int .i64 0, .int .i64 0, .int .i64 0, .int .i64 0, .int .i64 0, .int .i64 0, .int .i64 0, .int .i64 0, .string ⟨#[]⟩] := by rw [hW0]; exact hk0.far' (p := ⟨w14.heap.size, 9, none⟩) (show w14.heap.size ≠ w.heap.size by omega) _
  replace hk1 : Blk w18 (w14.heap.size) 41 [.int .i64 dm, .int .i64 sm, .int .i64 vl, .int .i64 ts, .int .i64 id, .int .i64 tl, .int .i64 si, .int .i64 167772161, .int .i64 kd, .int .i64 sp, .int .i64 0, .int .i64 0, .int .i64 0, .int .i64 0, .int .i64 0, .string ⟨#[]⟩] := by rw [hW0]; exact hk1.set_ 9 _
  replace q : Cur w18 g A n c := by rw [hW0]; exact cur_fr q (p := ⟨w14.heap.size, 9, none⟩) (show w14.heap.size ≠ g by omega) _
  replace gg : w.grownBy w18 (some g) := by rw [hW0]; exact only_setCell gg (p := ⟨w14.heap.size, 9, none⟩) (.inr (show w.heap.size ≤ w14.heap.size by omega)) _
  have lw_ : w17.heap.size ≤ w18.heap.size := by rw [hW0]; simp
  rw [← hW0]
  clear hW0
  have le_ : w17.heap.size ≤ w18.heap.size := lw_
  replace bl0 := Nat.lt_of_lt_of_le bl0 le_
  replace bl1 := Nat.lt_of_lt_of_le bl1 le_
  clear sz0 le_
  have sz0 := gg.size
  clear lw_
  obtain ⟨w19, hW0⟩ : ∃ W, W = w18.setCell ⟨w14.heap.size, 10, none⟩ (.int .i64 dp) := ⟨_, rfl⟩
  replace hk0 : Blk w19 (w.heap.size) 41 [.int .i64 0, .int .i64 0, .int .i64 0, .int .i64 0, .int .i64 0, .int .i64 0, .int .i64 0, .int .i64 0, .int .i64 0, .int .i64 0, .int .i64 0, .int .i64 0, .int .i64 0, .int .i64 0, .int .i64 0, .string ⟨#[]⟩] := by rw [hW0]; exact hk0.far' (p := ⟨w14.heap.size, 10, none⟩) (show w14.heap.size ≠ w.heap.size by omega) _
  replace hk1 : Blk w19 (w14.heap.size) 41 [.int .i64 dm, .int .i64 sm, .int .i64 vl, .int .i64 ts, .int .i64 id, .int .i64 tl, .int .i64 si, .int .i64 167772161, .int .i64 kd, .int .i64 sp, .int .i64 dp, .int .i64 0, .int .i64 0, .int .i64 0, .int .i64 0, .string ⟨#[]⟩] := by rw [hW0]; exact hk1.set_ 10 _
  replace q : Cur w19 g A n c := by rw [hW0]; exact cur_fr q (p := ⟨w14.heap.size, 10, none⟩) (show w14.heap.size ≠ g by omega) _
  replace gg : w.grownBy w19 (some g) := by rw [hW0]; exact only_setCell gg (p := ⟨w14.heap.size, 10, none⟩) (.inr (show w.heap.size ≤ w14.heap.size by omega)) _
  have lw_ : w18.heap.size ≤ w19.heap.size := by rw [hW0]; simp
  rw [← hW0]
  clear hW0
  have le_ : w18.heap.size ≤ w19.heap.size := lw_
  replace bl0 := Nat.lt_of_lt_of_le bl0 le_
  replace bl1 := Nat.lt_of_lt_of_le bl1 le_
  clear sz0 le_
  have sz0 := gg.size
  clear lw_
  obtain ⟨w20, hW0⟩ : ∃ W, W = w19.setCell ⟨w14.heap.size, 11, none⟩ (.int .i64 sq) := ⟨_, rfl⟩
  replace hk0 : Blk w20 (w.heap.size) 41 [.int .i64 0, .int .i64 0, .int .i64 0, .int .i64 0, .int .i64 0, .int .i64 0, .int .i64 0, .int .i64 0, .int .i64 0, .int .i64 0, .int .i64 0, .int .i64 0, .int .i64 0, .int .i64 0, .int .i64 0, .string ⟨#[]⟩] := by rw [hW0]; exact hk0.far' (p := ⟨w14.heap.size, 11, none⟩) (show w14.heap.size ≠ w.heap.size by omega) _
  replace hk1 : Blk w20 (w14.heap.size) 41 [.int .i64 dm, .int .i64 sm, .int .i64 vl, .int .i64 ts, .int .i64 id, .int .i64 tl, .int .i64 si, .int .i64 167772161, .int .i64 kd, .int .i64 sp, .int .i64 dp, .int .i64 sq, .int .i64 0, .int .i64 0, .int .i64 0, .string ⟨#[]⟩] := by rw [hW0]; exact hk1.set_ 11 _
  replace q : Cur w20 g A n c := by rw [hW0]; exact cur_fr q (p := ⟨w14.heap.size, 11, none⟩) (show w14.heap.size ≠ g by omega) _
  replace gg : w.grownBy w20 (some g) := by rw [hW0]; exact only_setCell gg (p := ⟨w14.heap.size, 11, none⟩) (.inr (show w.heap.size ≤ w14.heap.size by omega)) _
  have lw_ : w19.heap.size ≤ w20.heap.size := by rw [hW0]; simp
  rw [← hW0]
  clear hW0
  have le_ : w19.heap.size ≤ w20.heap.size := lw_
  replace bl0 := Nat.lt_of_lt_of_le bl0 le_
  replace bl1 := Nat.lt_of_lt_of_le bl1 le_
  clear sz0 le_
  have sz0 := gg.size
  clear lw_
  obtain ⟨w21, hW0⟩ : ∃ W, W = w20.setCell ⟨w14.heap.size, 12, none⟩ (.int .i64 ak) := ⟨_, rfl⟩
  replace hk0 : Blk w21 (w.heap.size) 41 [.int .i64 0, .int .i64 0, .int .i64 0, .int .i64 0, .int .i64 0, .int .i64 0, .int .i64 0, .int .i64 0, .int .i64 0, .int .i64 0, .int .i64 0, .int .i64 0, .int .i64 0, .int .i64 0, .int .i64 0, .string ⟨#[]⟩] := by rw [hW0]; exact hk0.far' (p := ⟨w14.heap.size, 12, none⟩) (show w14.heap.size ≠ w.heap.size by omega) _
  replace hk1 : Blk w21 (w14.heap.size) 41 [.int .i64 dm, .int .i64 sm, .int .i64 vl, .int .i64 ts, .int .i64 id, .int .i64 tl, .int .i64 si, .int .i64 167772161, .int .i64 kd, .int .i64 sp, .int .i64 dp, .int .i64 sq, .int .i64 ak, .int .i64 0, .int .i64 0, .string ⟨#[]⟩] := by rw [hW0]; exact hk1.set_ 12 _
  replace q : Cur w21 g A n c := by rw [hW0]; exact cur_fr q (p := ⟨w14.heap.size, 12, none⟩) (show w14.heap.size ≠ g by omega) _
  replace gg : w.grownBy w21 (some g) := by rw [hW0]; exact only_setCell gg (p := ⟨w14.heap.size, 12, none⟩) (.inr (show w.heap.size ≤ w14.heap.size by omega)) _
  have lw_ : w20.heap.size ≤ w21.heap.size := by rw [hW0]; simp
  rw [← hW0]
  clear hW0
  have le_ : w20.heap.size ≤ w21.heap.size := lw_
  replace bl0 := Nat.lt_of_lt_of_le bl0 le_
  replace bl1 := Nat.lt_of_lt_of_le bl1 le_
  clear sz0 le_
  have sz0 := gg.size
  clear lw_
  obtain ⟨w22, hW0⟩ : ∃ W, W = w21.setCell ⟨w14.heap.size, 13, none⟩ (.int .i64 fl) := ⟨_, rfl⟩
  replace hk0 : Blk w22 (w.heap.size) 41 [.int .i64 0, .int .i64 0, .int .i64 0, .int .i64 0, .int .i64 0, .int .i64 0, .int .i64 0, .int .i64 0, .int .i64 0, .int .i64 0, .int .i64 0, .int .i64 0, .int .i64 0, .int .i64 0, .int .i64 0, .string ⟨#[]⟩] := by rw [hW0]; exact hk0.far' (p := ⟨w14.heap.size, 13, none⟩) (show w14.heap.size ≠ w.heap.size by omega) _
  replace hk1 : Blk w22 (w14.heap.size) 41 [.int .i64 dm, .int .i64 sm, .int .i64 vl, .int .i64 ts, .int .i64 id, .int .i64 tl, .int .i64 si, .int .i64 167772161, .int .i64 kd, .int .i64 sp, .int .i64 dp, .int .i64 sq, .int .i64 ak, .int .i64 fl, .int .i64 0, .string ⟨#[]⟩] := by rw [hW0]; exact hk1.set_ 13 _
  replace q : Cur w22 g A n c := by rw [hW0]; exact cur_fr q (p := ⟨w14.heap.size, 13, none⟩) (show w14.heap.size ≠ g by omega) _
  replace gg : w.grownBy w22 (some g) := by rw [hW0]; exact only_setCell gg (p := ⟨w14.heap.size, 13, none⟩) (.inr (show w.heap.size ≤ w14.heap.size by omega)) _
  have lw_ : w21.heap.size ≤ w22.heap.size := by rw [hW0]; simp
  rw [← hW0]
  clear hW0
  have le_ : w21.heap.size ≤ w22.heap.size := lw_
  replace bl0 := Nat.lt_of_lt_of_le bl0 le_
  replace bl1 := Nat.lt_of_lt_of_le bl1 le_
  clear sz0 le_
  have sz0 := gg.size
  clear lw_
  obtain ⟨w23, hW0⟩ : ∃ W, W = w22.setCell ⟨w14.heap.size, 14, none⟩ (.int .i64 wn) := ⟨_, rfl⟩
  replace hk0 : Blk w23 (w.heap.size) 41 [.int .i64 0, .int .i64 0, .int .i64 0, .int .i64 0, .int .i64 0, .int .i64 0, .int .i64 0, .int .i64 0, .int .i64 0, .int .i64 0, .int .i64 0, .int .i64 0, .int .i64 0, .int .i64 0, .int .i64 0, .string ⟨#[]⟩] := by rw [hW0]; exact hk0.far' (p := ⟨w14.heap.size, 14, none⟩) (show w14.heap.size ≠ w.heap.size by omega) _
  replace hk1 : Blk w23 (w14.heap.size) 41 [.int .i64 dm, .int .i64 sm, .int .i64 vl, .int .i64 ts, .int .i64 id, .int .i64 tl, .int .i64 si, .int .i64 167772161, .int .i64 kd, .int .i64 sp, .int .i64 dp, .int .i64 sq, .int .i64 ak, .int .i64 fl, .int .i64 wn, .string ⟨#[]⟩] := by rw [hW0]; exact hk1.set_ 14 _
  replace q : Cur w23 g A n c := by rw [hW0]; exact cur_fr q (p := ⟨w14.heap.size, 14, none⟩) (show w14.heap.size ≠ g by omega) _
  replace gg : w.grownBy w23 (some g) := by rw [hW0]; exact only_setCell gg (p := ⟨w14.heap.size, 14, none⟩) (.inr (show w.heap.size ≤ w14.heap.size by omega)) _
  have lw_ : w22.heap.size ≤ w23.heap.size := by rw [hW0]; simp
  rw [← hW0]
  clear hW0
  have le_ : w22.heap.size ≤ w23.heap.size := lw_
  replace bl0 := Nat.lt_of_lt_of_le bl0 le_
  replace bl1 := Nat.lt_of_lt_of_le bl1 le_
  clear sz0 le_
  have sz0 := gg.size
  clear lw_
  obtain ⟨w24, hW0⟩ : ∃ W, W = w23.setCell ⟨w14.heap.size, 15, none⟩ (.string bd) := ⟨_, rfl⟩
  replace hk0 : Blk w24 (w.heap.size) 41 [.int .i64 0, .int .i64 0, .int .i64 0, .int .i64 0, .int .i64 0, .int .i64 0, .int .i64 0, .int .i64 0, .int .i64 0, .int .i64 0, .int .i64 0, .int .i64 0, .int .i64 0, .int .i64 0, .int .i64 0, .string ⟨#[]⟩] := by rw [hW0]; exact hk0.far' (p := ⟨w14.heap.size, 15, none⟩) (show w14.heap.size ≠ w.heap.size by omega) _
  replace hk1 : Blk w24 (w14.heap.size) 41 [.int .i64 dm, .int .i64 sm, .int .i64 vl, .int .i64 ts, .int .i64 id, .int .i64 tl, .int .i64 si, .int .i64 167772161, .int .i64 kd, .int .i64 sp, .int .i64 dp, .int .i64 sq, .int .i64 ak, .int .i64 fl, .int .i64 wn, .string bd] := by rw [hW0]; exact hk1.set_ 15 _
  replace q : Cur w24 g A n c := by rw [hW0]; exact cur_fr q (p := ⟨w14.heap.size, 15, none⟩) (show w14.heap.size ≠ g by omega) _
  replace gg : w.grownBy w24 (some g) := by rw [hW0]; exact only_setCell gg (p := ⟨w14.heap.size, 15, none⟩) (.inr (show w.heap.size ≤ w14.heap.size by omega)) _
  have lw_ : w23.heap.size ≤ w24.heap.size := by rw [hW0]; simp
  rw [← hW0]
  clear hW0
  have le_ : w23.heap.size ≤ w24.heap.size := lw_
  replace bl0 := Nat.lt_of_lt_of_le bl0 le_
  replace bl1 := Nat.lt_of_lt_of_le bl1 le_
  clear sz0 le_
  have sz0 := gg.size
  clear lw_
  skip
  go_cut [50] from 32 to 49 (fun s50 wx => s50 = .bool false ∧ Blk wx (w.heap.size) 41 [.int .i64 0, .int .i64 0, .int .i64 0, .int .i64 0, .int .i64 0, .int .i64 0, .int .i64 0, .int .i64 0, .int .i64 0, .int .i64 0, .int .i64 0, .int .i64 0, .int .i64 0, .int .i64 0, .int .i64 0, .string ⟨#[]⟩] ∧ Blk wx (w14.heap.size) 41 [.int .i64 dm, .int .i64 sm, .int .i64 vl, .int .i64 ts, .int .i64 id, .int .i64 tl, .int .i64 si, .int .i64 167772161, .int .i64 kd, .int .i64 sp, .int .i64 dp, .int .i64 sq, .int .i64 ak, .int .i64 fl, .int .i64 wn, .string bd] ∧ Cur wx g A n c ∧ w.grownBy wx (some g))
  case first =>
    have hkd : kd = 6 ∨ kd = 17 := by rcases (segB_t hsg).2 with ⟨h, _⟩ | ⟨h, _⟩ <;> omega
    rcases hkd with rfl | rfl
    · have hst := plain_ifF hfl
      obtain ⟨m9, e_m9⟩ : ∃ x, bits .andNot .i64 fl 9 = x := ⟨_, rfl⟩
      rw [e_m9] at hst
      by_cases h16 : m9 = 16
      · replace hst := hst.1 h16
        have c1_8 := hk1.at_ 8 _ rfl
        have c1_13 := hk1.at_ 13 _ rfl
        go_wp2_with fail
        go_meet
        exact ⟨rfl, hk0, hk1, q, gg⟩
      · clear hst
        have c1_8 := hk1.at_ 8 _ rfl
        have c1_13 := hk1.at_ 13 _ rfl
        go_wp2_with fail
        go_meet
        exact ⟨rfl, hk0, hk1, q, gg⟩
    · have c1_8 := hk1.at_ 8 _ rfl
      go_wp2_with fail
      go_meet
      exact ⟨rfl, hk0, hk1, q, gg⟩
  case rest =>
    clear hk0 hk1 q gg bl0 bl1 sz0
    obtain ⟨rfl, hk0, hk1, q, gg⟩ := hcut
    generalize hW0 : wc = w25 at *
    clear hW0
    have bl0 := hk0.lt
    have bl1 := hk1.lt
    have sz0 := gg.size
    have c1_0 := hk1.at_ 0 _ rfl
    have f1_0 := hk1.frozen 0
    have c1_1 := hk1.at_ 1 _ rfl
    have f1_1 := hk1.frozen 1
    have c1_2 := hk1.at_ 2 _ rfl
    have f1_2 := hk1.frozen 2
    have c1_3 := hk1.at_ 3 _ rfl
    have f1_3 := hk1.frozen 3
    have c1_4 := hk1.at_ 4 _ rfl
    have f1_4 := hk1.frozen 4
    have c1_5 := hk1.at_ 5 _ rfl
    have f1_5 := hk1.frozen 5
    have c1_6 := hk1.at_ 6 _ rfl
    have f1_6 := hk1.frozen 6
    have c1_7 := hk1.at_ 7 _ rfl
    have f1_7 := hk1.frozen 7
    have c1_8 := hk1.at_ 8 _ rfl
    have f1_8 := hk1.frozen 8
    have c1_9 := hk1.at_ 9 _ rfl
    have f1_9 := hk1.frozen 9
    have c1_10 := hk1.at_ 10 _ rfl
    have f1_10 := hk1.frozen 10
    have c1_11 := hk1.at_ 11 _ rfl
    have f1_11 := hk1.frozen 11
    have c1_12 := hk1.at_ 12 _ rfl
    have f1_12 := hk1.frozen 12
    have c1_13 := hk1.at_ 13 _ rfl
    have f1_13 := hk1.frozen 13
    have c1_14 := hk1.at_ 14 _ rfl
    have f1_14 := hk1.frozen 14
    have c1_15 := hk1.at_ 15 _ rfl
    have f1_15 := hk1.frozen 15
    have c0_0 := hk0.at_ 0 _ rfl
    have f0_0 := hk0.frozen 0
    have c0_1 := hk0.at_ 1 _ rfl
    have f0_1 := hk0.frozen 1
    have c0_2 := hk0.at_ 2 _ rfl
    have f0_2 := hk0.frozen 2
    have c0_3 := hk0.at_ 3 _ rfl
    have f0_3 := hk0.frozen 3
    have c0_4 := hk0.at_ 4 _ rfl
    have f0_4 := hk0.frozen 4
    have c0_5 := hk0.at_ 5 _ rfl
    have f0_5 := hk0.frozen 5
    have c0_6 := hk0.at_ 6 _ rfl
    have f0_6 := hk0.frozen 6
    have c0_7 := hk0.at_ 7 _ rfl
    have f0_7 := hk0.frozen 7
    have c0_8 := hk0.at_ 8 _ rfl
    have f0_8 := hk0.frozen 8
    have c0_9 := hk0.at_ 9 _ rfl
    have f0_9 := hk0.frozen 9
    have c0_10 := hk0.at_ 10 _ rfl
    have f0_10 := hk0.frozen 10
    have c0_11 := hk0.at_ 11 _ rfl
    have f0_11 := hk0.frozen 11
    have c0_12 := hk0.at_ 12 _ rfl
    have f0_12 := hk0.frozen 12
    have c0_13 := hk0.at_ 13 _ rfl
    have f0_13 := hk0.frozen 13
    have c0_14 := hk0.at_ 14 _ rfl
    have f0_14 := hk0.frozen 14
    have c0_15 := hk0.at_ 15 _ rfl
    have f0_15 := hk0.frozen 15
    go_wp2_with fail
    clear hk1 ne1 bl1 lo1 df0_1
    obtain ⟨w26, hW0⟩ : ∃ W, W = w25.setCell ⟨w.heap.size, 0, none⟩ (.int .i64 dm) := ⟨_, rfl⟩
    replace hk0 := blk_stp hk0 hW0
    replace q : Cur w26 g A n c := by rw [hW0]; exact cur_fr q (p := ⟨w.heap.size, 0, none⟩) (show w.heap.size ≠ g by omega) _
    replace gg : w.grownBy w26 (some g) := by rw [hW0]; exact only_setCell gg (p := ⟨w.heap.size, 0, none⟩) (.inr (show w.heap.size ≤ w.heap.size by omega)) _
    rw [← hW0]
    clear hW0
    clear c1_0 f1_0 c1_1 f1_1 c1_2 f1_2 c1_3 f1_3 c1_4 f1_4 c1_5 f1_5 c1_6 f1_6 c1_7 f1_7 c1_8 f1_8 c1_9 f1_9 c1_10 f1_10 c1_11 f1_11 c1_12 f1_12 c1_13 f1_13 c1_14 f1_14 c1_15 f1_15 c0_0 f0_0 c0_1 f0_1 c0_2 f0_2 c0_3 f0_3 c0_4 f0_4 c0_5 f0_5 c0_6 f0_6 c0_7 f0_7 c0_8 f0_8 c0_9 f0_9 c0_10 f0_10 c0_11 f0_11 c0_12 f0_12 c0_13 f0_13 c0_14 f0_14 c0_15 f0_15
    obtain ⟨w27, hW0⟩ : ∃ W, W = w26.setCell ⟨w.heap.size, 1, none⟩ (.int .i64 sm) := ⟨_, rfl⟩
    replace hk0 := blk_stp hk0 hW0
    replace q : Cur w27 g A n c := by rw [hW0]; exact cur_fr q (p := ⟨w.heap.size, 1, none⟩) (show w.heap.size ≠ g by omega) _
    replace gg : w.grownBy w27 (some g) := by rw [hW0]; exact only_setCell gg (p := ⟨w.heap.size, 1, none⟩) (.inr (show w.heap.size ≤ w.heap.size by omega)) _
    rw [← hW0]
    clear hW0
    obtain ⟨w28, hW0⟩ : ∃ W, W = w27.setCell ⟨w.heap.size, 2, none⟩ (.int .i64 vl) := ⟨_, rfl⟩
    replace hk0 := blk_stp hk0 hW0
    replace q : Cur w28 g A n c := by rw [hW0]; exact cur_fr q (p := ⟨w.heap.size, 2, none⟩) (show w.heap.size ≠ g by omega) _
    replace gg : w.grownBy w28 (some g) := by rw [hW0]; exact only_setCell gg (p := ⟨w.heap.size, 2, none⟩) (.inr (show w.heap.size ≤ w.heap.size by omega)) _
    rw [← hW0]
    clear hW0
    obtain ⟨w29, hW0⟩ : ∃ W, W = w28.setCell ⟨w.heap.size, 3, none⟩ (.int .i64 ts) := ⟨_, rfl⟩
    replace hk0 := blk_stp hk0 hW0
    replace q : Cur w29 g A n c := by rw [hW0]; exact cur_fr q (p := ⟨w.heap.size, 3, none⟩) (show w.heap.size ≠ g by omega) _
    replace gg : w.grownBy w29 (some g) := by rw [hW0]; exact only_setCell gg (p := ⟨w.heap.size, 3, none⟩) (.inr (show w.heap.size ≤ w.heap.size by omega)) _
    rw [← hW0]
    clear hW0
    obtain ⟨w30, hW0⟩ : ∃ W, W = w29.setCell ⟨w.heap.size, 4, none⟩ (.int .i64 id) := ⟨_, rfl⟩
    replace hk0 := blk_stp hk0 hW0
    replace q : Cur w30 g A n c := by rw [hW0]; exact cur_fr q (p := ⟨w.heap.size, 4, none⟩) (show w.heap.size ≠ g by omega) _
    replace gg : w.grownBy w30 (some g) := by rw [hW0]; exact only_setCell gg (p := ⟨w.heap.size, 4, none⟩) (.inr (show w.heap.size ≤ w.heap.size by omega)) _
    rw [← hW0]
    clear hW0
    obtain ⟨w31, hW0⟩ : ∃ W, W = w30.setCell ⟨w.heap.size, 5, none⟩ (.int .i64 tl) := ⟨_, rfl⟩
    replace hk0 := blk_stp hk0 hW0
    replace q : Cur w31 g A n c := by rw [hW0]; exact cur_fr q (p := ⟨w.heap.size, 5, none⟩) (show w.heap.size ≠ g by omega) _
    replace gg : w.grownBy w31 (some g) := by rw [hW0]; exact only_setCell gg (p := ⟨w.heap.size, 5, none⟩) (.inr (show w.heap.size ≤ w.heap.size by omega)) _
    rw [← hW0]
    clear hW0
    obtain ⟨w32, hW0⟩ : ∃ W, W = w31.setCell ⟨w.heap.size, 6, none⟩ (.int .i64 si) := ⟨_, rfl⟩
    replace hk0 := blk_stp hk0 hW0
    replace q : Cur w32 g A n c := by rw [hW0]; exact cur_fr q (p := ⟨w.heap.size, 6, none⟩) (show w.heap.size ≠ g by omega) _
    replace gg : w.grownBy w32 (some g) := by rw [hW0]; exact only_setCell gg (p := ⟨w.heap.size, 6, none⟩) (.inr (show w.heap.size ≤ w.heap.size by omega)) _
    rw [← hW0]
    clear hW0
    obtain ⟨w33, hW0⟩ : ∃ W, W = w32.setCell ⟨w.heap.size, 7, none⟩ (.int .i64 167772161) := ⟨_, rfl⟩
    replace hk0 := blk_stp hk0 hW0
    replace q : Cur w33 g A n c := by rw [hW0]; exact cur_fr q (p := ⟨w.heap.size, 7, none⟩) (show w.heap.size ≠ g by omega) _
    replace gg : w.grownBy w33 (some g) := by rw [hW0]; exact only_setCell gg (p := ⟨w.heap.size, 7, none⟩) (.inr (show w.heap.size ≤ w.heap.size by omega)) _
    rw [← hW0]
    clear hW0
    obtain ⟨w34, hW0⟩ : ∃ W, W = w33.setCell ⟨w.heap.size, 8, none⟩ (.int .i64 kd) := ⟨_, rfl⟩
    replace hk0 := blk_stp hk0 hW0
    replace q : Cur w34 g A n c := by rw [hW0]; exact cur_fr q (p := ⟨w.heap.size, 8, none⟩) (show w.heap.size ≠ g by omega) _
    replace gg : w.grownBy w34 (some g) := by rw [hW0]; exact only_setCell gg (p := ⟨w.heap.size, 8, none⟩) (.inr (show w.heap.size ≤ w.heap.size by omega)) _
    rw [← hW0]
    clear hW0
    obtain ⟨w35, hW0⟩ : ∃ W, W = w34.setCell ⟨w.heap.size, 9, none⟩ (.int .i64 sp) := ⟨_, rfl⟩
    replace hk0 := blk_stp hk0 hW0
    replace q : Cur w35 g A n c := by rw [hW0]; exact cur_fr q (p := ⟨w.heap.size, 9, none⟩) (show w.heap.size ≠ g by omega) _
    replace gg : w.grownBy w35 (some g) := by rw [hW0]; exact only_setCell gg (p := ⟨w.heap.size, 9, none⟩) (.inr (show w.heap.size ≤ w.heap.size by omega)) _
    rw [← hW0]
    clear hW0
    obtain ⟨w36, hW0⟩ : ∃ W, W = w35.setCell ⟨w.heap.size, 10, none⟩ (.int .i64 dp) := ⟨_, rfl⟩
    replace hk0 := blk_stp hk0 hW0
    replace q : Cur w36 g A n c := by rw [hW0]; exact cur_fr q (p := ⟨w.heap.size, 10, none⟩) (show w.heap.size ≠ g by omega) _
    replace gg : w.grownBy w36 (some g) := by rw [hW0]; exact only_setCell gg (p := ⟨w.heap.size, 10, none⟩) (.inr (show w.heap.size ≤ w.heap.size by omega)) _
    rw [← hW0]
    clear hW0
    obtain ⟨w37, hW0⟩ : ∃ W, W = w36.setCell ⟨w.heap.size, 11, none⟩ (.int .i64 sq) := ⟨_, rfl⟩
    replace hk0 := blk_stp hk0 hW0
    replace q : Cur w37 g A n c := by rw [hW0]; exact cur_fr q (p := ⟨w.heap.size, 11, none⟩) (show w.heap.size ≠ g by omega) _
    replace gg : w.grownBy w37 (some g) := by rw [hW0]; exact only_setCell gg (p := ⟨w.heap.size, 11, none⟩) (.inr (show w.heap.size ≤ w.heap.size by omega)) _
    rw [← hW0]
    clear hW0
    obtain ⟨w38, hW0⟩ : ∃ W, W = w37.setCell ⟨w.heap.size, 12, none⟩ (.int .i64 ak) := ⟨_, rfl⟩
    replace hk0 := blk_stp hk0 hW0
    replace q : Cur w38 g A n c := by rw [hW0]; exact cur_fr q (p := ⟨w.heap.size, 12, none⟩) (show w.heap.size ≠ g by omega) _
    replace gg : w.grownBy w38 (some g) := by rw [hW0]; exact only_setCell gg (p := ⟨w.heap.size, 12, none⟩) (.inr (show w.heap.size ≤ w.heap.size by omega)) _
    rw [← hW0]
    clear hW0
    obtain ⟨w39, hW0⟩ : ∃ W, W = w38.setCell ⟨w.heap.size, 13, none⟩ (.int .i64 fl) := ⟨_, rfl⟩
    replace hk0 := blk_stp hk0 hW0
    replace q : Cur w39 g A n c := by rw [hW0]; exact cur_fr q (p := ⟨w.heap.size, 13, none⟩) (show w.heap.size ≠ g by omega) _
    replace gg : w.grownBy w39 (some g) := by rw [hW0]; exact only_setCell gg (p := ⟨w.heap.size, 13, none⟩) (.inr (show w.heap.size ≤ w.heap.size by omega)) _
    rw [← hW0]
    clear hW0
    obtain ⟨w40, hW0⟩ : ∃ W, W = w39.setCell ⟨w.heap.size, 14, none⟩ (.int .i64 wn) := ⟨_, rfl⟩
    replace hk0 := blk_stp hk0 hW0
    replace q : Cur w40 g A n c := by rw [hW0]; exact cur_fr q (p := ⟨w.heap.size, 14, none⟩) (show w.heap.size ≠ g by omega) _
    replace gg : w.grownBy w40 (some g) := by rw [hW0]; exact only_setCell gg (p := ⟨w.heap.size, 14, none⟩) (.inr (show w.heap.size ≤ w.heap.size by omega)) _
    rw [← hW0]
    clear hW0
    obtain ⟨w41, hW0⟩ : ∃ W, W = w40.setCell ⟨w.heap.size, 15, none⟩ (.string bd) := ⟨_, rfl⟩
    replace hk0 := blk_stp hk0 hW0
    replace q : Cur w41 g A n c := by rw [hW0]; exact cur_fr q (p := ⟨w.heap.size, 15, none⟩) (show w.heap.size ≠ g by omega) _
    replace gg : w.grownBy w41 (some g) := by rw [hW0]; exact only_setCell gg (p := ⟨w.heap.size, 15, none⟩) (.inr (show w.heap.size ≤ w.heap.size by omega)) _
    rw [← hW0]
    clear hW0
    replace hk0 : Blk w41 (w.heap.size) 41 [.int .i64 dm, .int .i64 sm, .int .i64 vl, .int .i64 ts, .int .i64 id, .int .i64 tl, .int .i64 si, .int .i64 167772161, .int .i64 kd, .int .i64 sp, .int .i64 dp, .int .i64 sq, .int .i64 ak, .int .i64 fl, .int .i64 wn, .string bd] := hk0
    have hv := loadVar_blk (P := Try.prog) hk0 (n := 16) rfl (by simp [go_sem]) (by simp [go_sem])
    refine bodyPost_ret (v := .agg #[.int .i64 dm, .int .i64 sm, .int .i64 vl, .int .i64 ts, .int .i64 id, .int .i64 tl, .int .i64 si, .int .i64 167772161, .int .i64 kd, .int .i64 sp, .int .i64 dp, .int .i64 sq, .int .i64 ak, .int .i64 fl, .int .i64 wn, .string bd]) (by simp [results, Try.results43, asAddr, Result.andThen, hv]) rfl ?_
    exact ⟨⟨dm, sm, vl, ts, id, tl, si, 167772161, kd, sp, dp, sq, ak, fl, wn, bd⟩, pktD_mk h_dm h_sm h_vl h_ts h_id h_tl si0 si1 hsg (show (0 : Int) ≤ 40 ∧ (40 : Int) ≤ 128 ∧ (40 : Int) ≤ 40 by decide) hbz, rfl, q, gg⟩
end Go.Proofs.Ytkfekgmdjemkbaa
