/- Contracts of the reference's draws: l06Host, l06Flags, l06Segment. -/
import Derived.Test.YtkfekgmdjemkbaaDrawA
import Derived.Test.YtkfekgmdjemkbaaPktS
import Derived.Test.YtkfekgmdjemkbaaPktB
import Derived.Test.YtkfekgmdjemkbaaSlots4
import Derived.Test.YtkfekgmdjemkbaaRetB
namespace Go.Proofs.Ytkfekgmdjemkbaa
set_option linter.unusedSimpArgs false
set_option linter.unusedVariables false
open Go.RowKit Go.ChangeShapes Go.WideShapes
theorem blk_stp {w u : World} {b i : Nat} {T : TypeId} {cs : List Value} {v : Value} (hk : Blk w b T cs) (h : u = w.setCell ⟨b, i, none⟩ v) : Blk u b T (cs.set i v) := by rw [h]; exact hk.set_ i v
theorem plain_ifF {fl : Int} (h : fl ∈ [16, 16, 16, 24, 17, 2, 4, 31, (0 : Int)]) : bits .andNot .i64 fl 9 = 16 ↔ strB fl = true := by
  have h2 : 0 ≤ fl ∧ fl ≤ 31 := by simp only [List.mem_cons, List.not_mem_nil, or_false] at h; omega
  rw [(flags_and _ h2.1 h2.2).2.2, strB_iff]
/-- A drawn segment. -/
def DrawSeg (most : Int) (g : Nat) (A : Option Addr) (n c : Nat) (w : World) (e : Ending) (w' : World) : Prop := ∃ (kd sp dp sq ak fl wn : Int) (bd : ByteArray), (segB kd sp dp sq ak fl wn bd = true ∧ (bd.size : Int) ≤ most ∧ fl ∈ [16, 16, 16, 24, 17, 2, 4, 31, (0 : Int)]) ∧ e = .returned (.agg #[.int .i64 kd, .int .i64 sp, .int .i64 dp, .int .i64 sq, .int .i64 ak, .int .i64 fl, .int .i64 wn, .string bd]) ∧ Cur w' g A n c ∧ w.grownBy w' (some g)
theorem segD_mk {x sq ak fl wn : Int} {bd : ByteArray} {most : Int} (x0 : 0 ≤ x) (x1 : x < 2) (h1 : inB sq 0 4294967295 = true) (h2 : inB ak 0 4294967295 = true) (h3 : inB fl 0 31 = true) (h4 : inB wn 0 65535 = true) (hf : fl ∈ [16, 16, 16, 24, 17, 2, 4, 31, (0 : Int)]) (hb : (bd.size : Int) ≤ most) (hm : most ≤ 128) :
    segB 6 (1000 + x) 80 sq ak fl wn bd = true ∧ (bd.size : Int) ≤ most ∧ fl ∈ [16, 16, 16, 24, 17, 2, 4, 31, (0 : Int)] := by
  refine ⟨?_, hb, hf⟩
  rw [segB, inBi (by omega) (by omega), show inB 80 0 65535 = true by decide, decide_eq_true (by omega), if_pos rfl, h1, h2, h3, h4]; rfl
theorem segD_udp {x : Int} {bd : ByteArray} {most : Int} (x0 : 0 ≤ x) (x1 : x < 2) (hb : (bd.size : Int) ≤ most) (hm : most ≤ 128) :
    segB 17 (1000 + x) 53 0 0 0 0 bd = true ∧ (bd.size : Int) ≤ most ∧ (0 : Int) ∈ [16, 16, 16, 24, 17, 2, 4, 31, (0 : Int)] := by
  refine ⟨?_, hb, by decide⟩
  rw [segB, inBi (by omega) (by omega), show inB 53 0 65535 = true by decide, decide_eq_true (by omega), if_neg (by decide)]; rfl
/-- A drawn packet. -/
def DrawPkt (most : Int) (g : Nat) (A : Option Addr) (n c : Nat) (w : World) (e : Ending) (w' : World) : Prop := ∃ p : Packet, (superB p = true ∧ (p.seg_body.size : Int) ≤ most) ∧ e = .returned (.agg #[.int .i64 p.dmac, .int .i64 p.smac, .int .i64 p.vlan, .int .i64 p.tos, .int .i64 p.id, .int .i64 p.ttl, .int .i64 p.sip, .int .i64 p.dip, .int .i64 p.seg_kind, .int .i64 p.seg_sport, .int .i64 p.seg_dport, .int .i64 p.seg_seq, .int .i64 p.seg_ack, .int .i64 p.seg_flags, .int .i64 p.seg_win, .string p.seg_body]) ∧ Cur w' g A n c ∧ w.grownBy w' (some g)
theorem pktD_mk {dm sm vl ts id tl si kd sp dp sq ak fl wn : Int} {bd : ByteArray} {most mn : Int} (h1 : inB dm 0 281474976710655 = true) (h2 : inB sm 0 281474976710655 = true) (h3 : inB vl (-1) 4095 = true) (h4 : inB ts 0 255 = true) (h5 : inB id 0 65535 = true) (h6 : inB tl 0 255 = true) (s0 : 167772161 ≤ si) (s1 : si ≤ 167772163)
    (hsg : segB kd sp dp sq ak fl wn bd = true) (hmn : 0 ≤ mn ∧ mn ≤ 128 ∧ mn ≤ most) (hbz : (bd.size : Int) ≤ mn) : superB ⟨dm, sm, vl, ts, id, tl, si, 167772161, kd, sp, dp, sq, ak, fl, wn, bd⟩ = true ∧ (bd.size : Int) ≤ most := by
  refine ⟨?_, by omega⟩
  rw [superB, h1, h2, h3, h4, h6, h5, show inB si 0 4294967295 = true from inBi (by omega) (by omega), show inB 167772161 0 4294967295 = true by decide, hsg, decide_eq_true (show (bd.size : Int) ≤ 128 by omega)]; rfl
theorem pktD_long {dm sm vl ts id tl si sp dp sq ak fl wn : Int} {bd b2 : ByteArray} {most : Int} (h1 : inB dm 0 281474976710655 = true) (h2 : inB sm 0 281474976710655 = true) (h3 : inB vl (-1) 4095 = true) (h4 : inB ts 0 255 = true) (h5 : inB id 0 65535 = true) (h6 : inB tl 0 255 = true) (s0 : 167772161 ≤ si) (s1 : si ≤ 167772163)
    (hsg : segB 6 sp dp sq ak fl wn bd = true) (hst : strB fl = true) (hb2 : (b2.size : Int) ≤ most) (hmo : most ≤ 320) : superB ⟨dm, sm, vl, ts, id, tl, si, 167772161, 6, sp, dp, sq, ak, fl, wn, b2⟩ = true ∧ (b2.size : Int) ≤ most := by
  refine ⟨?_, hb2⟩
  obtain ⟨⟨g1, g2, _⟩, ⟨_, g4, g5, g6, g7⟩ | ⟨h, _⟩⟩ := segB_t hsg
  · rw [superB, h1, h2, h3, h4, h6, h5, show inB si 0 4294967295 = true from inBi (by omega) (by omega), show inB 167772161 0 4294967295 = true by decide, hst,
      show segB 6 sp dp sq ak fl wn b2 = true by rw [segB, g1, g2, decide_eq_true (by omega), if_pos rfl, g4, g5, g6, g7]; rfl]
    simp
  · exact absurd h (by decide)
set_option maxRecDepth 100000 in
set_option maxHeartbeats 2000000 in
theorem l06Host_c (g : Nat) (A : Option Addr) (n c : Nat) (l : List Int) (w : World) (hcur : Cur w g A n c) (hn : l.length = n) (hm : n ≤ 1048576) (hr : Reads w g 1 A n (l.flatMap fun x : Int => [Value.int .u8 x])) (hb : ∀ x ∈ l, 0 ≤ x ∧ x ≤ 255) :
    Calls Try.prog 69 #[.pointer (some ⟨g, 0, none⟩)] w (DrawI (fun x => 167772161 ≤ x ∧ x ≤ 167772163) g A n c w) := by
  have hlt0 := hcur.lt
  have HN := Lib.hid hn
  clear hn
  go_enter Try.func69, Try.ntmps69
  have q := hcur
  have gg : w.grownBy w (some g) := World.grownBy.refl _ _
  have sz0 : w.heap.size ≤ w.heap.size := Nat.le_refl _
  go_wp2_with fail
  refine (l01Below_c g A n c l _ q HN.out hm (reads_cur hr gg hlt0) hb 3 (by omega) (by omega)).mono ?_
  rintro e w1 ⟨x, ⟨x0, x1⟩, rfl, q1, hh⟩
  replace gg := grown_trans gg hh
  have le_ : w.heap.size ≤ w1.heap.size := hh.size
  clear sz0 le_
  have sz0 := gg.size
  replace q := q1
  clear q1 hh
  have ew1 : IntKind.i64.wrap (167772161 + x) = 167772161 + x := IntWalk.i64_in _ ⟨by omega, by omega⟩
  go_wp2
  go_ret
  exact ⟨_, ⟨by omega, by omega⟩, rfl, q, gg⟩
set_option maxRecDepth 100000 in
set_option maxHeartbeats 2000000 in
theorem l06Flags_c (g : Nat) (A : Option Addr) (n c : Nat) (l : List Int) (w : World) (hcur : Cur w g A n c) (hn : l.length = n) (hm : n ≤ 1048576) (hr : Reads w g 1 A n (l.flatMap fun x : Int => [Value.int .u8 x])) (hb : ∀ x ∈ l, 0 ≤ x ∧ x ≤ 255) :
    Calls Try.prog 77 #[.pointer (some ⟨g, 0, none⟩)] w (DrawI (fun x => x ∈ [16, 16, 16, 24, 17, 2, 4, 31, (0 : Int)]) g A n c w) := by
  have hlt0 := hcur.lt
  have HN := Lib.hid hn
  clear hn
  go_enter Try.func77, Try.ntmps77
  have q := hcur
  have gg : w.grownBy w (some g) := World.grownBy.refl _ _
  have sz0 : w.heap.size ≤ w.heap.size := Nat.le_refl _
  go_wp2_with fail
  obtain ⟨w1, hW0⟩ : ∃ W, W = w.alloc (.cells #[.int .i64 16, .int .i64 16, .int .i64 16, .int .i64 24, .int .i64 17, .int .i64 2, .int .i64 4, .int .i64 31, .int .i64 0] 3) := ⟨_, rfl⟩
  have lo0 : w.heap.size ≤ w.heap.size := by omega
  have ne0 : some g ≠ some (w.heap.size) := fun e => by injection e with e; omega
  have hk0 : Blk w1 (w.heap.size) 3 [.int .i64 16, .int .i64 16, .int .i64 16, .int .i64 24, .int .i64 17, .int .i64 2, .int .i64 4, .int .i64 31, .int .i64 0] := by rw [hW0]; exact Blk.new _ _ _
  replace q : Cur w1 g A n c := by rw [hW0]; exact q.alloc _
  replace gg : w.grownBy w1 (some g) := by rw [hW0]; exact grown_al gg _
  have bl0 := hk0.lt
  have lw_ : w.heap.size ≤ w1.heap.size := by rw [hW0]; simp
  rw [← hW0]
  clear hW0
  have le_ : w.heap.size ≤ w1.heap.size := lw_
  clear sz0 le_
  have sz0 := gg.size
  clear lw_
  refine (l01PickInt_c g A n c l _ q HN.out hm (reads_cur hr gg hlt0) hb _ 9 [16, 16, 16, 24, 17, 2, 4, 31, 0] hk0 (by omega) rfl (by omega) (by omega)).mono ?_
  rintro e w2 ⟨x, i_x, rfl, q1, hh⟩
  replace hk0 := blk_kept hk0 hh ne0
  replace gg := grown_trans gg hh
  have le_ : w1.heap.size ≤ w2.heap.size := hh.size
  replace bl0 := Nat.lt_of_lt_of_le bl0 le_
  clear sz0 le_
  have sz0 := gg.size
  replace q := q1
  clear q1 hh
  clear hk0 ne0 bl0 lo0 
  go_wp2
  go_ret
  exact ⟨_, i_x, rfl, q, gg⟩
set_option maxRecDepth 100000 in
set_option maxHeartbeats 4000000 in
theorem l06Segment_c (g : Nat) (A : Option Addr) (n c : Nat) (l : List Int) (w : World) (hcur : Cur w g A n c) (hn : l.length = n) (hm : n ≤ 1048576) (hr : Reads w g 1 A n (l.flatMap fun x : Int => [Value.int .u8 x])) (hb : ∀ x ∈ l, 0 ≤ x ∧ x ≤ 255) (most : Int) (m0 : 0 ≤ most) (m1 : most ≤ 128) :
    Calls Try.prog 70 #[.pointer (some ⟨g, 0, none⟩), .int .i64 most] w (DrawSeg most g A n c w) := by
  have hlt0 := hcur.lt
  have HN := Lib.hid hn
  clear hn
  go_enter Try.func70, Try.ntmps70
  have q := hcur
  have gg : w.grownBy w (some g) := World.grownBy.refl _ _
  have sz0 : w.heap.size ≤ w.heap.size := Nat.le_refl _
  go_wp2_with fail
  obtain ⟨w1, hW0⟩ : ∃ W, W = w.alloc (.cells #[.int .i64 0, .int .i64 0, .int .i64 0, .int .i64 0, .int .i64 0, .int .i64 0, .int .i64 0, .string ⟨#[]⟩] 39) := ⟨_, rfl⟩
  have lo0 : w.heap.size ≤ w.heap.size := by omega
  have ne0 : some g ≠ some (w.heap.size) := fun e => by injection e with e; omega
  have hk0 : Blk w1 (w.heap.size) 39 [.int .i64 0, .int .i64 0, .int .i64 0, .int .i64 0, .int .i64 0, .int .i64 0, .int .i64 0, .string ⟨#[]⟩] := by rw [hW0]; exact Blk.new _ _ _
  replace q : Cur w1 g A n c := by rw [hW0]; exact q.alloc _
  replace gg : w.grownBy w1 (some g) := by rw [hW0]; exact grown_al gg _
  have bl0 := hk0.lt
  have lw_ : w.heap.size ≤ w1.heap.size := by rw [hW0]; simp
  rw [← hW0]
  clear hW0
  have le_ : w.heap.size ≤ w1.heap.size := lw_
  clear sz0 le_
  have sz0 := gg.size
  clear lw_
  refine (l01Below_c g A n c l _ q HN.out hm (reads_cur hr gg hlt0) hb 2 (by omega) (by omega)).mono ?_
  rintro e w2 ⟨x, ⟨x0, x1⟩, rfl, q1, hh⟩
  replace hk0 := blk_kept hk0 hh ne0
  replace gg := grown_trans gg hh
  have le_ : w1.heap.size ≤ w2.heap.size := hh.size
  replace bl0 := Nat.lt_of_lt_of_le bl0 le_
  clear sz0 le_
  have sz0 := gg.size
  replace q := q1
  clear q1 hh
  have ew1 : IntKind.i64.wrap (1000 + x) = 1000 + x := IntWalk.i64_in _ ⟨by omega, by omega⟩
  go_wp2_with fail
  refine (l01Below_c g A n c l _ q HN.out hm (reads_cur hr gg hlt0) hb 65536 (by omega) (by omega)).mono ?_
  rintro e w3 ⟨y, ⟨y0, y1⟩, rfl, q1, hh⟩
  replace hk0 := blk_kept hk0 hh ne0
  replace gg := grown_trans gg hh
  have le_ : w2.heap.size ≤ w3.heap.size := hh.size
  replace bl0 := Nat.lt_of_lt_of_le bl0 le_
  clear sz0 le_
  have sz0 := gg.size
  replace q := q1
  clear q1 hh
  go_wp2_with fail
  obtain ⟨w4, hW0⟩ : ∃ W, W = w3.alloc (.cells #[.int .i64 0, .int .i64 100, .int .i64 4294967290, .int .i64 y] 3) := ⟨_, rfl⟩
  replace hk0 : Blk w4 (w.heap.size) 39 [.int .i64 0, .int .i64 0, .int .i64 0, .int .i64 0, .int .i64 0, .int .i64 0, .int .i64 0, .string ⟨#[]⟩] := by rw [hW0]; exact hk0.alloc _
  have lo1 : w.heap.size ≤ w3.heap.size := by omega
  have ne1 : some g ≠ some (w3.heap.size) := fun e => by injection e with e; omega
  have df0_1 : w.heap.size < w3.heap.size := by omega
  have hk1 : Blk w4 (w3.heap.size) 3 [.int .i64 0, .int .i64 100, .int .i64 4294967290, .int .i64 y] := by rw [hW0]; exact Blk.new _ _ _
  replace q : Cur w4 g A n c := by rw [hW0]; exact q.alloc _
  replace gg : w.grownBy w4 (some g) := by rw [hW0]; exact grown_al gg _
  have bl1 := hk1.lt
  have lw_ : w3.heap.size ≤ w4.heap.size := by rw [hW0]; simp
  rw [← hW0]
  clear hW0
  have le_ : w3.heap.size ≤ w4.heap.size := lw_
  replace bl0 := Nat.lt_of_lt_of_le bl0 le_
  clear sz0 le_
  have sz0 := gg.size
  clear lw_
  refine (l01PickInt_c g A n c l _ q HN.out hm (reads_cur hr gg hlt0) hb _ 4 [0, 100, 4294967290, y] hk1 (by omega) rfl (by omega) (by omega)).mono ?_
  rintro e w5 ⟨sq, i_sq, rfl, q1, hh⟩
  replace hk0 := blk_kept hk0 hh ne0
  replace hk1 := blk_kept hk1 hh ne1
  replace gg := grown_trans gg hh
  have le_ : w4.heap.size ≤ w5.heap.size := hh.size
  replace bl0 := Nat.lt_of_lt_of_le bl0 le_
  replace bl1 := Nat.lt_of_lt_of_le bl1 le_
  clear sz0 le_
  have sz0 := gg.size
  replace q := q1
  clear q1 hh
  clear hk1 ne1 bl1 lo1 df0_1
  go_wp2_with fail
  obtain ⟨w6, hW0⟩ : ∃ W, W = w5.alloc (.cells #[.int .i64 0, .int .i64 5, .int .i64 4294967295] 3) := ⟨_, rfl⟩
  replace hk0 : Blk w6 (w.heap.size) 39 [.int .i64 0, .int .i64 0, .int .i64 0, .int .i64 0, .int .i64 0, .int .i64 0, .int .i64 0, .string ⟨#[]⟩] := by rw [hW0]; exact hk0.alloc _
  have lo1 : w.heap.size ≤ w5.heap.size := by omega
  have ne1 : some g ≠ some (w5.heap.size) := fun e => by injection e with e; omega
  have df0_1 : w.heap.size < w5.heap.size := by omega
  have hk1 : Blk w6 (w5.heap.size) 3 [.int .i64 0, .int .i64 5, .int .i64 4294967295] := by rw [hW0]; exact Blk.new _ _ _
  replace q : Cur w6 g A n c := by rw [hW0]; exact q.alloc _
  replace gg : w.grownBy w6 (some g) := by rw [hW0]; exact grown_al gg _
  have bl1 := hk1.lt
  have lw_ : w5.heap.size ≤ w6.heap.size := by rw [hW0]; simp
  rw [← hW0]
  clear hW0
  have le_ : w5.heap.size ≤ w6.heap.size := lw_
  replace bl0 := Nat.lt_of_lt_of_le bl0 le_
  clear sz0 le_
  have sz0 := gg.size
  clear lw_
  refine (l01PickInt_c g A n c l _ q HN.out hm (reads_cur hr gg hlt0) hb _ 3 [0, 5, 4294967295] hk1 (by omega) rfl (by omega) (by omega)).mono ?_
  rintro e w7 ⟨ak, i_ak, rfl, q1, hh⟩
  replace hk0 := blk_kept hk0 hh ne0
  replace hk1 := blk_kept hk1 hh ne1
  replace gg := grown_trans gg hh
  have le_ : w6.heap.size ≤ w7.heap.size := hh.size
  replace bl0 := Nat.lt_of_lt_of_le bl0 le_
  replace bl1 := Nat.lt_of_lt_of_le bl1 le_
  clear sz0 le_
  have sz0 := gg.size
  replace q := q1
  clear q1 hh
  clear hk1 ne1 bl1 lo1 df0_1
  go_wp2_with fail
  refine (l06Flags_c g A n c l _ q HN.out hm (reads_cur hr gg hlt0) hb).mono ?_
  rintro e w8 ⟨fl, i_fl, rfl, q1, hh⟩
  replace hk0 := blk_kept hk0 hh ne0
  replace gg := grown_trans gg hh
  have le_ : w7.heap.size ≤ w8.heap.size := hh.size
  replace bl0 := Nat.lt_of_lt_of_le bl0 le_
  clear sz0 le_
  have sz0 := gg.size
  replace q := q1
  clear q1 hh
  go_wp2_with fail
  obtain ⟨w9, hW0⟩ : ∃ W, W = w8.alloc (.cells #[.int .i64 0, .int .i64 512, .int .i64 65535] 3) := ⟨_, rfl⟩
  replace hk0 : Blk w9 (w.heap.size) 39 [.int .i64 0, .int .i64 0, .int .i64 0, .int .i64 0, .int .i64 0, .int .i64 0, .int .i64 0, .string ⟨#[]⟩] := by rw [hW0]; exact hk0.alloc _
  have lo1 : w.heap.size ≤ w8.heap.size := by omega
  have ne1 : some g ≠ some (w8.heap.size) := fun e => by injection e with e; omega
  have df0_1 : w.heap.size < w8.heap.size := by omega
  have hk1 : Blk w9 (w8.heap.size) 3 [.int .i64 0, .int .i64 512, .int .i64 65535] := by rw [hW0]; exact Blk.new _ _ _
  replace q : Cur w9 g A n c := by rw [hW0]; exact q.alloc _
  replace gg : w.grownBy w9 (some g) := by rw [hW0]; exact grown_al gg _
  have bl1 := hk1.lt
  have lw_ : w8.heap.size ≤ w9.heap.size := by rw [hW0]; simp
  rw [← hW0]
  clear hW0
  have le_ : w8.heap.size ≤ w9.heap.size := lw_
  replace bl0 := Nat.lt_of_lt_of_le bl0 le_
  clear sz0 le_
  have sz0 := gg.size
  clear lw_
  refine (l01PickInt_c g A n c l _ q HN.out hm (reads_cur hr gg hlt0) hb _ 3 [0, 512, 65535] hk1 (by omega) rfl (by omega) (by omega)).mono ?_
  rintro e w10 ⟨wn, i_wn, rfl, q1, hh⟩
  replace hk0 := blk_kept hk0 hh ne0
  replace hk1 := blk_kept hk1 hh ne1
  replace gg := grown_trans gg hh
  have le_ : w9.heap.size ≤ w10.heap.size := hh.size
  replace bl0 := Nat.lt_of_lt_of_le bl0 le_
  replace bl1 := Nat.lt_of_lt_of_le bl1 le_
  clear sz0 le_
  have sz0 := gg.size
  replace q := q1
  clear q1 hh
  clear hk1 ne1 bl1 lo1 df0_1
  have h_sq : inB sq 0 4294967295 = true := by simp only [List.mem_cons, List.not_mem_nil, or_false] at i_sq; exact inBi (by omega) (by omega)
  have h_ak : inB ak 0 4294967295 = true := by simp only [List.mem_cons, List.not_mem_nil, or_false] at i_ak; exact inBi (by omega) (by omega)
  have h_wn : inB wn 0 65535 = true := by simp only [List.mem_cons, List.not_mem_nil, or_false] at i_wn; exact inBi (by omega) (by omega)
  have h_fl : inB fl 0 31 = true := by simp only [List.mem_cons, List.not_mem_nil, or_false] at i_fl; exact inBi (by omega) (by omega)
  clear i_sq i_ak i_wn
  have ew2 : IntKind.i64.wrap (most + 1) = most + 1 := IntWalk.i64_in _ ⟨by omega, by omega⟩
  go_wp2_with fail
  obtain ⟨w11, hW0⟩ : ∃ W, W = w10.alloc (.cells #[.int .i64 6, .int .i64 (1000 + x), .int .i64 80, .int .i64 sq, .int .i64 ak, .int .i64 fl, .int .i64 wn, .string ⟨#[]⟩] 39) := ⟨_, rfl⟩
  replace hk0 : Blk w11 (w.heap.size) 39 [.int .i64 0, .int .i64 0, .int .i64 0, .int .i64 0, .int .i64 0, .int .i64 0, .int .i64 0, .string ⟨#[]⟩] := by rw [hW0]; exact hk0.alloc _
  have lo1 : w.heap.size ≤ w10.heap.size := by omega
  have ne1 : some g ≠ some (w10.heap.size) := fun e => by injection e with e; omega
  have df0_1 : w.heap.size < w10.heap.size := by omega
  have hk1 : Blk w11 (w10.heap.size) 39 [.int .i64 6, .int .i64 (1000 + x), .int .i64 80, .int .i64 sq, .int .i64 ak, .int .i64 fl, .int .i64 wn, .string ⟨#[]⟩] := by rw [hW0]; exact Blk.new _ _ _
  replace q : Cur w11 g A n c := by rw [hW0]; exact q.alloc _
  replace gg : w.grownBy w11 (some g) := by rw [hW0]; exact grown_al gg _
  have bl1 := hk1.lt
  have lw_ : w10.heap.size ≤ w11.heap.size := by rw [hW0]; simp
  rw [← hW0]
  clear hW0
  have le_ : w10.heap.size ≤ w11.heap.size := lw_
  replace bl0 := Nat.lt_of_lt_of_le bl0 le_
  clear sz0 le_
  have sz0 := gg.size
  clear lw_
  refine (l01Below_c g A n c l _ q HN.out hm (reads_cur hr gg hlt0) hb (most + 1) (by omega) (by omega)).mono ?_
  rintro e w12 ⟨k, ⟨k0, k1⟩, rfl, q1, hh⟩
  replace hk0 := blk_kept hk0 hh ne0
  replace hk1 := blk_kept hk1 hh ne1
  replace gg := grown_trans gg hh
  have le_ : w11.heap.size ≤ w12.heap.size := hh.size
  replace bl0 := Nat.lt_of_lt_of_le bl0 le_
  replace bl1 := Nat.lt_of_lt_of_le bl1 le_
  clear sz0 le_
  have sz0 := gg.size
  replace q := q1
  clear q1 hh
  go_wp2_with fail
  refine (l01Text_c g A n c l _ q HN.out hm (reads_cur hr gg hlt0) hb k (by omega) (by omega)).mono ?_
  rintro e w13 ⟨bd, z_bd, rfl, q1, hh⟩
  replace hk0 := blk_kept hk0 hh ne0
  replace hk1 := blk_kept hk1 hh ne1
  replace gg := grown_trans gg hh
  have le_ : w12.heap.size ≤ w13.heap.size := hh.size
  replace bl0 := Nat.lt_of_lt_of_le bl0 le_
  replace bl1 := Nat.lt_of_lt_of_le bl1 le_
  clear sz0 le_
  have sz0 := gg.size
  replace q := q1
  clear q1 hh
  have c1_7 := hk1.at_ 7 _ rfl
  have f1_7 := hk1.frozen 7
  go_wp2_with fail
  obtain ⟨w14, hW0⟩ : ∃ W, W = w13.setCell ⟨w10.heap.size, 7, none⟩ (.string bd) := ⟨_, rfl⟩
  replace hk0 : Blk w14 (w.heap.size) 39 [.int .i64 0, .int .i64 0, .int .i64 0, .int .i64 0, .int .i64 0, .int .i64 0, .int .i64 0, .string ⟨#[]⟩] := by rw [hW0]; exact hk0.far' (p := ⟨w10.heap.size, 7, none⟩) (show w10.heap.size ≠ w.heap.size by omega) _
  replace hk1 : Blk w14 (w10.heap.size) 39 [.int .i64 6, .int .i64 (1000 + x), .int .i64 80, .int .i64 sq, .int .i64 ak, .int .i64 fl, .int .i64 wn, .string bd] := by rw [hW0]; exact hk1.set_ 7 _
  replace q : Cur w14 g A n c := by rw [hW0]; exact cur_fr q (p := ⟨w10.heap.size, 7, none⟩) (show w10.heap.size ≠ g by omega) _
  replace gg : w.grownBy w14 (some g) := by rw [hW0]; exact only_setCell gg (p := ⟨w10.heap.size, 7, none⟩) (.inr (show w.heap.size ≤ w10.heap.size by omega)) _
  have lw_ : w13.heap.size ≤ w14.heap.size := by rw [hW0]; simp
  rw [← hW0]
  clear hW0
  have le_ : w13.heap.size ≤ w14.heap.size := lw_
  replace bl0 := Nat.lt_of_lt_of_le bl0 le_
  replace bl1 := Nat.lt_of_lt_of_le bl1 le_
  clear sz0 le_
  have sz0 := gg.size
  clear lw_
  clear c1_7 f1_7
  refine (l01Once_c g A n c l _ q HN.out hm (reads_cur hr gg hlt0) hb 4 (by omega) (by omega)).mono ?_
  rintro e w15 ⟨u, rfl, q1, hh⟩
  replace hk0 := blk_kept hk0 hh ne0
  replace hk1 := blk_kept hk1 hh ne1
  replace gg := grown_trans gg hh
  have le_ : w14.heap.size ≤ w15.heap.size := hh.size
  replace bl0 := Nat.lt_of_lt_of_le bl0 le_
  replace bl1 := Nat.lt_of_lt_of_le bl1 le_
  clear sz0 le_
  have sz0 := gg.size
  replace q := q1
  clear q1 hh
  cases u
  · have c1_0 := hk1.at_ 0 _ rfl
    have f1_0 := hk1.frozen 0
    have c1_1 := hk1.at_ 1 _ rfl
    have f1_1 := hk1.frozen 1
    have c1_2 := hk1.at_ 2 _ rfl
    have f1_2 := hk1.frozen 2
    have c1_3 := hk1.at_ 3 _ rfl
    have f1_3 := hk1.frozen 3
    have c1_4 := hk1.at_ 4 _ rfl
    have f1_4 := hk1.frozen 4
    have c1_5 := hk1.at_ 5 _ rfl
    have f1_5 := hk1.frozen 5
    have c1_6 := hk1.at_ 6 _ rfl
    have f1_6 := hk1.frozen 6
    have c1_7 := hk1.at_ 7 _ rfl
    have f1_7 := hk1.frozen 7
    have c0_0 := hk0.at_ 0 _ rfl
    have f0_0 := hk0.frozen 0
    have c0_1 := hk0.at_ 1 _ rfl
    have f0_1 := hk0.frozen 1
    have c0_2 := hk0.at_ 2 _ rfl
    have f0_2 := hk0.frozen 2
    have c0_3 := hk0.at_ 3 _ rfl
    have f0_3 := hk0.frozen 3
    have c0_4 := hk0.at_ 4 _ rfl
    have f0_4 := hk0.frozen 4
    have c0_5 := hk0.at_ 5 _ rfl
    have f0_5 := hk0.frozen 5
    have c0_6 := hk0.at_ 6 _ rfl
    have f0_6 := hk0.frozen 6
    have c0_7 := hk0.at_ 7 _ rfl
    have f0_7 := hk0.frozen 7
    go_wp2_with fail
    clear hk1 ne1 bl1 lo1 df0_1
    obtain ⟨w16, hW0⟩ : ∃ W, W = w15.setCell ⟨w.heap.size, 0, none⟩ (.int .i64 6) := ⟨_, rfl⟩
    replace hk0 := blk_stp hk0 hW0
    replace q : Cur w16 g A n c := by rw [hW0]; exact cur_fr q (p := ⟨w.heap.size, 0, none⟩) (show w.heap.size ≠ g by omega) _
    replace gg : w.grownBy w16 (some g) := by rw [hW0]; exact only_setCell gg (p := ⟨w.heap.size, 0, none⟩) (.inr (show w.heap.size ≤ w.heap.size by omega)) _
    rw [← hW0]
    clear hW0
    clear c1_0 f1_0 c1_1 f1_1 c1_2 f1_2 c1_3 f1_3 c1_4 f1_4 c1_5 f1_5 c1_6 f1_6 c1_7 f1_7 c0_0 f0_0 c0_1 f0_1 c0_2 f0_2 c0_3 f0_3 c0_4 f0_4 c0_5 f0_5 c0_6 f0_6 c0_7 f0_7
    obtain ⟨w17, hW0⟩ : ∃ W, W = w16.setCell ⟨w.heap.size, 1, none⟩ (.int .i64 (1000 + x)) := ⟨_, rfl⟩
    replace hk0 := blk_stp hk0 hW0
    replace q : Cur w17 g A n c := by rw [hW0]; exact cur_fr q (p := ⟨w.heap.size, 1, none⟩) (show w.heap.size ≠ g by omega) _
    replace gg : w.grownBy w17 (some g) := by rw [hW0]; exact only_setCell gg (p := ⟨w.heap.size, 1, none⟩) (.inr (show w.heap.size ≤ w.heap.size by omega)) _
    rw [← hW0]
    clear hW0
    obtain ⟨w18, hW0⟩ : ∃ W, W = w17.setCell ⟨w.heap.size, 2, none⟩ (.int .i64 80) := ⟨_, rfl⟩
    replace hk0 := blk_stp hk0 hW0
    replace q : Cur w18 g A n c := by rw [hW0]; exact cur_fr q (p := ⟨w.heap.size, 2, none⟩) (show w.heap.size ≠ g by omega) _
    replace gg : w.grownBy w18 (some g) := by rw [hW0]; exact only_setCell gg (p := ⟨w.heap.size, 2, none⟩) (.inr (show w.heap.size ≤ w.heap.size by omega)) _
    rw [← hW0]
    clear hW0
    obtain ⟨w19, hW0⟩ : ∃ W, W = w18.setCell ⟨w.heap.size, 3, none⟩ (.int .i64 sq) := ⟨_, rfl⟩
    replace hk0 := blk_stp hk0 hW0
    replace q : Cur w19 g A n c := by rw [hW0]; exact cur_fr q (p := ⟨w.heap.size, 3, none⟩) (show w.heap.size ≠ g by omega) _
    replace gg : w.grownBy w19 (some g) := by rw [hW0]; exact only_setCell gg (p := ⟨w.heap.size, 3, none⟩) (.inr (show w.heap.size ≤ w.heap.size by omega)) _
    rw [← hW0]
    clear hW0
    obtain ⟨w20, hW0⟩ : ∃ W, W = w19.setCell ⟨w.heap.size, 4, none⟩ (.int .i64 ak) := ⟨_, rfl⟩
    replace hk0 := blk_stp hk0 hW0
    replace q : Cur w20 g A n c := by rw [hW0]; exact cur_fr q (p := ⟨w.heap.size, 4, none⟩) (show w.heap.size ≠ g by omega) _
    replace gg : w.grownBy w20 (some g) := by rw [hW0]; exact only_setCell gg (p := ⟨w.heap.size, 4, none⟩) (.inr (show w.heap.size ≤ w.heap.size by omega)) _
    rw [← hW0]
    clear hW0
    obtain ⟨w21, hW0⟩ : ∃ W, W = w20.setCell ⟨w.heap.size, 5, none⟩ (.int .i64 fl) := ⟨_, rfl⟩
    replace hk0 := blk_stp hk0 hW0
    replace q : Cur w21 g A n c := by rw [hW0]; exact cur_fr q (p := ⟨w.heap.size, 5, none⟩) (show w.heap.size ≠ g by omega) _
    replace gg : w.grownBy w21 (some g) := by rw [hW0]; exact only_setCell gg (p := ⟨w.heap.size, 5, none⟩) (.inr (show w.heap.size ≤ w.heap.size by omega)) _
    rw [← hW0]
    clear hW0
    obtain ⟨w22, hW0⟩ : ∃ W, W = w21.setCell ⟨w.heap.size, 6, none⟩ (.int .i64 wn) := ⟨_, rfl⟩
    replace hk0 := blk_stp hk0 hW0
    replace q : Cur w22 g A n c := by rw [hW0]; exact cur_fr q (p := ⟨w.heap.size, 6, none⟩) (show w.heap.size ≠ g by omega) _
    replace gg : w.grownBy w22 (some g) := by rw [hW0]; exact only_setCell gg (p := ⟨w.heap.size, 6, none⟩) (.inr (show w.heap.size ≤ w.heap.size by omega)) _
    rw [← hW0]
    clear hW0
    obtain ⟨w23, hW0⟩ : ∃ W, W = w22.setCell ⟨w.heap.size, 7, none⟩ (.string bd) := ⟨_, rfl⟩
    replace hk0 := blk_stp hk0 hW0
    replace q : Cur w23 g A n c := by rw [hW0]; exact cur_fr q (p := ⟨w.heap.size, 7, none⟩) (show w.heap.size ≠ g by omega) _
    replace gg : w.grownBy w23 (some g) := by rw [hW0]; exact only_setCell gg (p := ⟨w.heap.size, 7, none⟩) (.inr (show w.heap.size ≤ w.heap.size by omega)) _
    rw [← hW0]
    clear hW0
    replace hk0 : Blk w23 (w.heap.size) 39 [.int .i64 6, .int .i64 (1000 + x), .int .i64 80, .int .i64 sq, .int .i64 ak, .int .i64 fl, .int .i64 wn, .string bd] := hk0
    have hv := loadVar_blk (P := Try.prog) hk0 (n := 8) rfl (by simp [go_sem]) (by simp [go_sem])
    refine bodyPost_ret (v := .agg #[.int .i64 6, .int .i64 (1000 + x), .int .i64 80, .int .i64 sq, .int .i64 ak, .int .i64 fl, .int .i64 wn, .string bd]) (by simp [results, Try.results70, asAddr, Result.andThen, hv]) rfl ?_
    exact ⟨6, 1000 + x, 80, sq, ak, fl, wn, bd, segD_mk x0 x1 h_sq h_ak h_fl h_wn i_fl (by omega) (by omega), rfl, q, gg⟩
  · have c1_0 := hk1.at_ 0 _ rfl
    have f1_0 := hk1.frozen 0
    have c1_1 := hk1.at_ 1 _ rfl
    have f1_1 := hk1.frozen 1
    have c1_2 := hk1.at_ 2 _ rfl
    have f1_2 := hk1.frozen 2
    have c1_3 := hk1.at_ 3 _ rfl
    have f1_3 := hk1.frozen 3
    have c1_4 := hk1.at_ 4 _ rfl
    have f1_4 := hk1.frozen 4
    have c1_5 := hk1.at_ 5 _ rfl
    have f1_5 := hk1.frozen 5
    have c1_6 := hk1.at_ 6 _ rfl
    have f1_6 := hk1.frozen 6
    have c1_7 := hk1.at_ 7 _ rfl
    have f1_7 := hk1.frozen 7
    have c0_0 := hk0.at_ 0 _ rfl
    have f0_0 := hk0.frozen 0
    have c0_1 := hk0.at_ 1 _ rfl
    have f0_1 := hk0.frozen 1
    have c0_2 := hk0.at_ 2 _ rfl
    have f0_2 := hk0.frozen 2
    have c0_3 := hk0.at_ 3 _ rfl
    have f0_3 := hk0.frozen 3
    have c0_4 := hk0.at_ 4 _ rfl
    have f0_4 := hk0.frozen 4
    have c0_5 := hk0.at_ 5 _ rfl
    have f0_5 := hk0.frozen 5
    have c0_6 := hk0.at_ 6 _ rfl
    have f0_6 := hk0.frozen 6
    have c0_7 := hk0.at_ 7 _ rfl
    have f0_7 := hk0.frozen 7
    go_wp2_with fail
    clear hk1 ne1 bl1 lo1 df0_1
    obtain ⟨w16, hW0⟩ : ∃ W, W = w15.setCell ⟨w.heap.size, 0, none⟩ (.int .i64 17) := ⟨_, rfl⟩
    replace hk0 := blk_stp hk0 hW0
    replace q : Cur w16 g A n c := by rw [hW0]; exact cur_fr q (p := ⟨w.heap.size, 0, none⟩) (show w.heap.size ≠ g by omega) _
    replace gg : w.grownBy w16 (some g) := by rw [hW0]; exact only_setCell gg (p := ⟨w.heap.size, 0, none⟩) (.inr (show w.heap.size ≤ w.heap.size by omega)) _
    rw [← hW0]
    clear hW0
    clear c1_0 f1_0 c1_1 f1_1 c1_2 f1_2 c1_3 f1_3 c1_4 f1_4 c1_5 f1_5 c1_6 f1_6 c1_7 f1_7 c0_0 f0_0 c0_1 f0_1 c0_2 f0_2 c0_3 f0_3 c0_4 f0_4 c0_5 f0_5 c0_6 f0_6 c0_7 f0_7
    obtain ⟨w17, hW0⟩ : ∃ W, W = w16.setCell ⟨w.heap.size, 1, none⟩ (.int .i64 (1000 + x)) := ⟨_, rfl⟩
    replace hk0 := blk_stp hk0 hW0
    replace q : Cur w17 g A n c := by rw [hW0]; exact cur_fr q (p := ⟨w.heap.size, 1, none⟩) (show w.heap.size ≠ g by omega) _
    replace gg : w.grownBy w17 (some g) := by rw [hW0]; exact only_setCell gg (p := ⟨w.heap.size, 1, none⟩) (.inr (show w.heap.size ≤ w.heap.size by omega)) _
    rw [← hW0]
    clear hW0
    obtain ⟨w18, hW0⟩ : ∃ W, W = w17.setCell ⟨w.heap.size, 2, none⟩ (.int .i64 53) := ⟨_, rfl⟩
    replace hk0 := blk_stp hk0 hW0
    replace q : Cur w18 g A n c := by rw [hW0]; exact cur_fr q (p := ⟨w.heap.size, 2, none⟩) (show w.heap.size ≠ g by omega) _
    replace gg : w.grownBy w18 (some g) := by rw [hW0]; exact only_setCell gg (p := ⟨w.heap.size, 2, none⟩) (.inr (show w.heap.size ≤ w.heap.size by omega)) _
    rw [← hW0]
    clear hW0
    obtain ⟨w19, hW0⟩ : ∃ W, W = w18.setCell ⟨w.heap.size, 3, none⟩ (.int .i64 0) := ⟨_, rfl⟩
    replace hk0 := blk_stp hk0 hW0
    replace q : Cur w19 g A n c := by rw [hW0]; exact cur_fr q (p := ⟨w.heap.size, 3, none⟩) (show w.heap.size ≠ g by omega) _
    replace gg : w.grownBy w19 (some g) := by rw [hW0]; exact only_setCell gg (p := ⟨w.heap.size, 3, none⟩) (.inr (show w.heap.size ≤ w.heap.size by omega)) _
    rw [← hW0]
    clear hW0
    obtain ⟨w20, hW0⟩ : ∃ W, W = w19.setCell ⟨w.heap.size, 4, none⟩ (.int .i64 0) := ⟨_, rfl⟩
    replace hk0 := blk_stp hk0 hW0
    replace q : Cur w20 g A n c := by rw [hW0]; exact cur_fr q (p := ⟨w.heap.size, 4, none⟩) (show w.heap.size ≠ g by omega) _
    replace gg : w.grownBy w20 (some g) := by rw [hW0]; exact only_setCell gg (p := ⟨w.heap.size, 4, none⟩) (.inr (show w.heap.size ≤ w.heap.size by omega)) _
    rw [← hW0]
    clear hW0
    obtain ⟨w21, hW0⟩ : ∃ W, W = w20.setCell ⟨w.heap.size, 5, none⟩ (.int .i64 0) := ⟨_, rfl⟩
    replace hk0 := blk_stp hk0 hW0
    replace q : Cur w21 g A n c := by rw [hW0]; exact cur_fr q (p := ⟨w.heap.size, 5, none⟩) (show w.heap.size ≠ g by omega) _
    replace gg : w.grownBy w21 (some g) := by rw [hW0]; exact only_setCell gg (p := ⟨w.heap.size, 5, none⟩) (.inr (show w.heap.size ≤ w.heap.size by omega)) _
    rw [← hW0]
    clear hW0
    obtain ⟨w22, hW0⟩ : ∃ W, W = w21.setCell ⟨w.heap.size, 6, none⟩ (.int .i64 0) := ⟨_, rfl⟩
    replace hk0 := blk_stp hk0 hW0
    replace q : Cur w22 g A n c := by rw [hW0]; exact cur_fr q (p := ⟨w.heap.size, 6, none⟩) (show w.heap.size ≠ g by omega) _
    replace gg : w.grownBy w22 (some g) := by rw [hW0]; exact only_setCell gg (p := ⟨w.heap.size, 6, none⟩) (.inr (show w.heap.size ≤ w.heap.size by omega)) _
    rw [← hW0]
    clear hW0
    obtain ⟨w23, hW0⟩ : ∃ W, W = w22.setCell ⟨w.heap.size, 7, none⟩ (.string bd) := ⟨_, rfl⟩
    replace hk0 := blk_stp hk0 hW0
    replace q : Cur w23 g A n c := by rw [hW0]; exact cur_fr q (p := ⟨w.heap.size, 7, none⟩) (show w.heap.size ≠ g by omega) _
    replace gg : w.grownBy w23 (some g) := by rw [hW0]; exact only_setCell gg (p := ⟨w.heap.size, 7, none⟩) (.inr (show w.heap.size ≤ w.heap.size by omega)) _
    rw [← hW0]
    clear hW0
    replace hk0 : Blk w23 (w.heap.size) 39 [.int .i64 17, .int .i64 (1000 + x), .int .i64 53, .int .i64 0, .int .i64 0, .int .i64 0, .int .i64 0, .string bd] := hk0
    have hv := loadVar_blk (P := Try.prog) hk0 (n := 8) rfl (by simp [go_sem]) (by simp [go_sem])
    refine bodyPost_ret (v := .agg #[.int .i64 17, .int .i64 (1000 + x), .int .i64 53, .int .i64 0, .int .i64 0, .int .i64 0, .int .i64 0, .string bd]) (by simp [results, Try.results70, asAddr, Result.andThen, hv]) rfl ?_
    exact ⟨17, 1000 + x, 53, 0, 0, 0, 0, bd, segD_udp x0 x1 (by omega) (by omega), rfl, q, gg⟩
end Go.Proofs.Ytkfekgmdjemkbaa
