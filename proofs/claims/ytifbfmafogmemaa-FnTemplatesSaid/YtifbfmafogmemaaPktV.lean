/- Contracts of FillSums: impl. -/
import Derived.Test.YtifbfmafogmemaaPktU
import Derived.Test.YtifbfmafogmemaaPktT
import Derived.Deep.RegionWith
namespace Go.Proofs.Ytifbfmafogmemaa
set_option linter.unusedSimpArgs false
set_option linter.unusedVariables false
open Go.RowKit Go.ChangeShapes Go.WideShapes
set_option maxRecDepth 100000 in
set_option maxHeartbeats 4000000 in
theorem implFS_e0 (t : ByteArray) (w : World) (hE : ∀ u : World, Calls Try.prog 61 #[.string t] u fun e w' => e = .returned (.tuple #[.agg #[.int .i64 0, .int .i64 0, .int .i64 0, .int .i64 0, .string ByteArray.empty], .bool false]) ∧ Below u.heap.size u w') (hN : ∀ u : World, Calls Try.prog 62 #[.string ByteArray.empty, .int .i64 2] u fun e w' => e = .returned (.int .i64 (-1)) ∧ Below u.heap.size u w') :
    Calls Try.prog 16 #[.string t] w fun e w' => e = .returned (.tuple #[.string ByteArray.empty, .bool false]) ∧ Below w.heap.size w w' := by
  go_enter Try.func16, Try.ntmps16
  go_wp2_with fail
  have k0 : Below w.heap.size w w := by go_grown
  have p0 := k0.size
  refine (hE _).mono ?_
  rintro e w1 ⟨rfl, hb⟩
  have k1 : Below w.heap.size w w1 := ext_step k0 (by omega) hb
  have p1 := hb.size
  clear hb
  go_wp2_with fail
  obtain ⟨w2, hW0⟩ : ∃ W, W = (w1.alloc (.cells #[.int .i64 0, .int .i64 0, .int .i64 0, .int .i64 0, .string ByteArray.empty] 99)) := ⟨_, rfl⟩
  have hb : Below w1.heap.size w1 w2 := by rw [hW0]; go_grown
  have bl0 : w1.heap.size < w2.heap.size := by rw [hW0]; go_size
  have hk0 : Blk w2 (w1.heap.size) 99 [.int .i64 0, .int .i64 0, .int .i64 0, .int .i64 0, .string ByteArray.empty] := by rw [hW0]; exact Blk.new _ _ _
  rw [← hW0]
  clear hW0
  have k2 := ext_step k1 (by omega) hb
  have p2 := hb.size
  clear hb
  refine (hN _).mono ?_
  rintro e w3 ⟨rfl, hb⟩
  have k3 : Below w.heap.size w w3 := ext_step k2 (by omega) hb
  have p3 := hb.size
  replace hk0 := hk0.ext hb
  have bl0 := Nat.lt_of_lt_of_le bl0 hb.size
  clear hb
  have bx0_4 := hk0.at_ 4 _ rfl
  go_wp2_with fail
  refine bodyPost_ret (v := .tuple #[.string ByteArray.empty, .bool false]) (by simp [results, Try.results16, go_sem]; rfl) rfl ?_
  exact ⟨rfl, k3⟩
set_option maxRecDepth 100000 in
set_option maxHeartbeats 4000000 in
theorem implFS_pl (t : ByteArray) (w : World) {B G H : ByteArray} {D S V T n a b kd si di pl : Int} (hE : ∀ u : World, Calls Try.prog 61 #[.string t] u fun e w' => e = .returned (.tuple #[.agg #[.int .i64 D, .int .i64 S, .int .i64 V, .int .i64 T, .string B], .bool true]) ∧ Below u.heap.size u w') (hN : ∀ u : World, Calls Try.prog 62 #[.string B, .int .i64 2] u fun e w' => e = .returned (.int .i64 n) ∧ Below u.heap.size u w') (hP : ∀ u : World, Calls Try.prog 53 #[.string t] u fun e w' => e = .returned (.tuple #[.int .i64 a, .int .i64 b]) ∧ Below u.heap.size u w') (h12 : ∀ u : World, Calls Try.prog 64 #[.string B, .int .i64 12] u fun e w' => e = .returned (.int .i64 si) ∧ Below u.heap.size u w') (h16 : ∀ u : World, Calls Try.prog 64 #[.string B, .int .i64 16] u fun e w' => e = .returned (.int .i64 di) ∧ Below u.heap.size u w') (hH : ∀ u : World, Calls Try.prog 63 #[.int .i64 si, .int .i64 di, .int .i64 kd, .int .i64 (G.size : Int)] u fun e w' => e = .returned (.tuple #[.string H, .bool true]) ∧ Below u.heap.size u w') (hSP : ∀ u : World, Calls Try.prog 65 #[.int .i64 kd] u fun e w' => e = .returned (.int .i64 pl) ∧ Below u.heap.size u w') (h20 : 20 ≤ n) (hnB : n ≤ (B.size : Int)) (hBz : B.size ≤ 400) (hB46 : 46 ≤ B.size) (hgg : B.extract 20 n.toNat = G) (hkk : byt B 9 = kd) (hplb : 6 ≤ pl ∧ pl ≤ 16) (hpl : ¬ pl + 2 ≤ (G.size : Int)) :
    Calls Try.prog 16 #[.string t] w fun e w' => e = .returned (.tuple #[.string ByteArray.empty, .bool false]) ∧ Below w.heap.size w w' := by
  have x9 := idxi (s := B) (i := 9) (k := 9) rfl (by omega)
  have kb := byt_bd B 9
  simp only [hkk] at x9 kb
  have hGz : G.size ≤ 400 := by rw [← hgg, ByteArray.size_extract]; omega
  have ewk : IntKind.i64.wrap kd = kd := IntWalk.i64_in _ ⟨by omega, by omega⟩
  go_enter Try.func16, Try.ntmps16
  go_wp2_with fail
  have k0 : Below w.heap.size w w := by go_grown
  have p0 := k0.size
  refine (hE _).mono ?_
  rintro e w1 ⟨rfl, hb⟩
  have k1 : Below w.heap.size w w1 := ext_step k0 (by omega) hb
  have p1 := hb.size
  clear hb
  go_wp2_with fail
  obtain ⟨w2, hW0⟩ : ∃ W, W = (w1.alloc (.cells #[.int .i64 D, .int .i64 S, .int .i64 V, .int .i64 T, .string B] 99)) := ⟨_, rfl⟩
  have hb : Below w1.heap.size w1 w2 := by rw [hW0]; go_grown
  have bl0 : w1.heap.size < w2.heap.size := by rw [hW0]; go_size
  have hk0 : Blk w2 (w1.heap.size) 99 [.int .i64 D, .int .i64 S, .int .i64 V, .int .i64 T, .string B] := by rw [hW0]; exact Blk.new _ _ _
  rw [← hW0]
  clear hW0
  have k2 := ext_step k1 (by omega) hb
  have p2 := hb.size
  clear hb
  refine (hN _).mono ?_
  rintro e w3 ⟨rfl, hb⟩
  have k3 : Below w.heap.size w w3 := ext_step k2 (by omega) hb
  have p3 := hb.size
  replace hk0 := hk0.ext hb
  have bl0 := Nat.lt_of_lt_of_le bl0 hb.size
  clear hb
  have bx0_4 := hk0.at_ 4 _ rfl
  go_wp2_with fail
  refine (hP _).mono ?_
  rintro e w4 ⟨rfl, hb⟩
  have k4 : Below w.heap.size w w4 := ext_step k3 (by omega) hb
  have p4 := hb.size
  replace hk0 := hk0.ext hb
  clear bx0_4
  have bl0 := Nat.lt_of_lt_of_le bl0 hb.size
  clear hb
  have bx0_4 := hk0.at_ 4 _ rfl
  go_wp2_with fail
  have hxt := fun t : Ext w4 => t.cell bx0_4
  refine wp_region_ext_lit (by kernel_rfl) (by kernel_rfl) ?_
  repeat (go_big_quiet_step (first | (go_at_call_of 64 ((12 : Int)); exact ext_call (h12 _)) | (go_at_call_of 64 ((16 : Int)); exact ext_call (h16 _)) | (go_at_call 63; exact ext_call (hH _))))
  refine wpQuiet_nil ?_
  intro _ hw'
  obtain ⟨tq, hw''⟩ := hw'
  subst hw''
  have hb := tq.below
  generalize hW0 : tq.wd = w5 at *
  clear hW0 hxt
  have k5 : Below w.heap.size w w5 := ext_step k4 (by omega) hb
  have p5 := hb.size
  replace hk0 := hk0.ext hb
  clear bx0_4
  have bl0 := Nat.lt_of_lt_of_le bl0 hb.size
  clear hb
  go_wp2_with fail
  refine (hSP _).mono ?_
  rintro e w6 ⟨rfl, hb⟩
  have k6 : Below w.heap.size w w6 := ext_step k5 (by omega) hb
  have p6 := hb.size
  replace hk0 := hk0.ext hb
  have bl0 := Nat.lt_of_lt_of_le bl0 hb.size
  clear hb
  go_wp2_with fail
  refine bodyPost_ret (v := .tuple #[.string ByteArray.empty, .bool false]) (by simp [results, Try.results16, go_sem]; rfl) rfl ?_
  exact ⟨rfl, k6⟩
set_option maxRecDepth 100000 in
set_option maxHeartbeats 4000000 in
theorem implFS_n1 (t : ByteArray) (w : World) {B : ByteArray} {D S V T n : Int} (hE : ∀ u : World, Calls Try.prog 61 #[.string t] u fun e w' => e = .returned (.tuple #[.agg #[.int .i64 D, .int .i64 S, .int .i64 V, .int .i64 T, .string B], .bool true]) ∧ Below u.heap.size u w') (hN : ∀ u : World, Calls Try.prog 62 #[.string B, .int .i64 2] u fun e w' => e = .returned (.int .i64 n) ∧ Below u.heap.size u w') (h20 : 20 ≤ n) (hnB : ¬ n ≤ (B.size : Int)) (hBz : B.size ≤ 400) :
    Calls Try.prog 16 #[.string t] w fun e w' => e = .returned (.tuple #[.string ByteArray.empty, .bool false]) ∧ Below w.heap.size w w' := by
  go_enter Try.func16, Try.ntmps16
  go_wp2_with fail
  have k0 : Below w.heap.size w w := by go_grown
  have p0 := k0.size
  refine (hE _).mono ?_
  rintro e w1 ⟨rfl, hb⟩
  have k1 : Below w.heap.size w w1 := ext_step k0 (by omega) hb
  have p1 := hb.size
  clear hb
  go_wp2_with fail
  obtain ⟨w2, hW0⟩ : ∃ W, W = (w1.alloc (.cells #[.int .i64 D, .int .i64 S, .int .i64 V, .int .i64 T, .string B] 99)) := ⟨_, rfl⟩
  have hb : Below w1.heap.size w1 w2 := by rw [hW0]; go_grown
  have bl0 : w1.heap.size < w2.heap.size := by rw [hW0]; go_size
  have hk0 : Blk w2 (w1.heap.size) 99 [.int .i64 D, .int .i64 S, .int .i64 V, .int .i64 T, .string B] := by rw [hW0]; exact Blk.new _ _ _
  rw [← hW0]
  clear hW0
  have k2 := ext_step k1 (by omega) hb
  have p2 := hb.size
  clear hb
  refine (hN _).mono ?_
  rintro e w3 ⟨rfl, hb⟩
  have k3 : Below w.heap.size w w3 := ext_step k2 (by omega) hb
  have p3 := hb.size
  replace hk0 := hk0.ext hb
  have bl0 := Nat.lt_of_lt_of_le bl0 hb.size
  clear hb
  have bx0_4 := hk0.at_ 4 _ rfl
  go_wp2_with fail
  refine bodyPost_ret (v := .tuple #[.string ByteArray.empty, .bool false]) (by simp [results, Try.results16, go_sem]; rfl) rfl ?_
  exact ⟨rfl, k3⟩
set_option maxRecDepth 100000 in
set_option maxHeartbeats 4000000 in
theorem implFS_n0 (t : ByteArray) (w : World) {B : ByteArray} {D S V T n : Int} (hE : ∀ u : World, Calls Try.prog 61 #[.string t] u fun e w' => e = .returned (.tuple #[.agg #[.int .i64 D, .int .i64 S, .int .i64 V, .int .i64 T, .string B], .bool true]) ∧ Below u.heap.size u w') (hN : ∀ u : World, Calls Try.prog 62 #[.string B, .int .i64 2] u fun e w' => e = .returned (.int .i64 n) ∧ Below u.heap.size u w') (h20 : ¬ 20 ≤ n) (hBz : B.size ≤ 400) :
    Calls Try.prog 16 #[.string t] w fun e w' => e = .returned (.tuple #[.string ByteArray.empty, .bool false]) ∧ Below w.heap.size w w' := by
  go_enter Try.func16, Try.ntmps16
  go_wp2_with fail
  have k0 : Below w.heap.size w w := by go_grown
  have p0 := k0.size
  refine (hE _).mono ?_
  rintro e w1 ⟨rfl, hb⟩
  have k1 : Below w.heap.size w w1 := ext_step k0 (by omega) hb
  have p1 := hb.size
  clear hb
  go_wp2_with fail
  obtain ⟨w2, hW0⟩ : ∃ W, W = (w1.alloc (.cells #[.int .i64 D, .int .i64 S, .int .i64 V, .int .i64 T, .string B] 99)) := ⟨_, rfl⟩
  have hb : Below w1.heap.size w1 w2 := by rw [hW0]; go_grown
  have bl0 : w1.heap.size < w2.heap.size := by rw [hW0]; go_size
  have hk0 : Blk w2 (w1.heap.size) 99 [.int .i64 D, .int .i64 S, .int .i64 V, .int .i64 T, .string B] := by rw [hW0]; exact Blk.new _ _ _
  rw [← hW0]
  clear hW0
  have k2 := ext_step k1 (by omega) hb
  have p2 := hb.size
  clear hb
  refine (hN _).mono ?_
  rintro e w3 ⟨rfl, hb⟩
  have k3 : Below w.heap.size w w3 := ext_step k2 (by omega) hb
  have p3 := hb.size
  replace hk0 := hk0.ext hb
  have bl0 := Nat.lt_of_lt_of_le bl0 hb.size
  clear hb
  have bx0_4 := hk0.at_ 4 _ rfl
  go_wp2_with fail
  refine bodyPost_ret (v := .tuple #[.string ByteArray.empty, .bool false]) (by simp [results, Try.results16, go_sem]; rfl) rfl ?_
  exact ⟨rfl, k3⟩
set_option maxRecDepth 100000 in
set_option maxHeartbeats 4000000 in
theorem implFS_atn (t : ByteArray) (w : World) {B B20 G H wx wy t1 t2 tm : ByteArray} {D S V T n a b si di pl xx : Int} {p : Packet} (hE : ∀ u : World, Calls Try.prog 61 #[.string t] u fun e w' => e = .returned (.tuple #[.agg #[.int .i64 D, .int .i64 S, .int .i64 V, .int .i64 T, .string B], .bool true]) ∧ Below u.heap.size u w') (hN : ∀ u : World, Calls Try.prog 62 #[.string B, .int .i64 2] u fun e w' => e = .returned (.int .i64 n) ∧ Below u.heap.size u w') (hP : ∀ u : World, Calls Try.prog 53 #[.string t] u fun e w' => e = .returned (.tuple #[.int .i64 a, .int .i64 b]) ∧ Below u.heap.size u w') (h12 : ∀ u : World, Calls Try.prog 64 #[.string B, .int .i64 12] u fun e w' => e = .returned (.int .i64 si) ∧ Below u.heap.size u w') (h16 : ∀ u : World, Calls Try.prog 64 #[.string B, .int .i64 16] u fun e w' => e = .returned (.int .i64 di) ∧ Below u.heap.size u w') (hH : ∀ u : World, Calls Try.prog 63 #[.int .i64 si, .int .i64 di, .int .i64 17, .int .i64 (G.size : Int)] u fun e w' => e = .returned (.tuple #[.string H, .bool true]) ∧ Below u.heap.size u w') (hSP : ∀ u : World, Calls Try.prog 65 #[.int .i64 17] u fun e w' => e = .returned (.int .i64 pl) ∧ Below u.heap.size u w') (hK : ∀ u : World, Calls Try.prog 66 #[.string (H ++ G)] u fun e w' => e = .returned (.int .i64 0) ∧ Below u.heap.size u w') (hC2 : ∀ u : World, Calls Try.prog 66 #[.string B20] u fun e w' => e = .returned (.int .i64 xx) ∧ Below u.heap.size u w') (hW1 : ∀ u : World, Calls Try.prog 55 #[.int .i64 xx] u fun e w' => e = .returned (.string wx) ∧ Below u.heap.size u w') (hP1 : ∀ u : World, Calls Try.prog 54 #[.string t, .int .i64 a, .string wx] u fun e w' => e = .returned (.string t1) ∧ Below u.heap.size u w') (hW2 : ∀ u : World, Calls Try.prog 55 #[.int .i64 65535] u fun e w' => e = .returned (.string wy) ∧ Below u.heap.size u w') (hP2 : ∀ u : World, Calls Try.prog 54 #[.string t1, .int .i64 b, .string wy] u fun e w' => e = .returned (.string t2) ∧ Below u.heap.size u w') (h20 : 20 ≤ n) (hnB : n ≤ (B.size : Int)) (hBz : B.size ≤ 400) (hB46 : 46 ≤ B.size) (hgg : B.extract 20 n.toNat = G) (hkk : byt B 9 = 17) (hplb : 6 ≤ pl ∧ pl ≤ 16) (hpl : pl + 2 ≤ (G.size : Int)) (zH : H.size = 12) (e_20 : B.extract 0 20 = B20) (hR : ∀ u : World, Calls Try.prog 20 #[.string t2] u fun e w' => e = .returned (.tuple #[.agg #[.int .i64 p.dmac, .int .i64 p.smac, .int .i64 p.vlan, .int .i64 p.tos, .int .i64 p.id, .int .i64 p.ttl, .int .i64 p.sip, .int .i64 p.dip, .int .i64 p.seg_kind, .int .i64 p.seg_sport, .int .i64 p.seg_dport, .int .i64 p.seg_seq, .int .i64 p.seg_ack, .int .i64 p.seg_flags, .int .i64 p.seg_win, .string p.seg_body], .int .i64 0]) ∧ Below u.heap.size u w') (hT : ∀ u : World, Calls Try.prog 14 #[.agg #[.int .i64 p.dmac, .int .i64 p.smac, .int .i64 p.vlan, .int .i64 p.tos, .int .i64 p.id, .int .i64 p.ttl, .int .i64 p.sip, .int .i64 p.dip, .int .i64 p.seg_kind, .int .i64 p.seg_sport, .int .i64 p.seg_dport, .int .i64 p.seg_seq, .int .i64 p.seg_ack, .int .i64 p.seg_flags, .int .i64 p.seg_win, .string p.seg_body]] u fun e w' => e = .returned (.tuple #[.string tm, .bool true]) ∧ Below u.heap.size u w') (he : (tm.toList == t.toList) = false) :
    Calls Try.prog 16 #[.string t] w fun e w' => e = .returned (.tuple #[.string ByteArray.empty, .bool false]) ∧ Below w.heap.size w w' := by
  have x9 := idxi (s := B) (i := 9) (k := 9) rfl (by omega)
  have kb := byt_bd B 9
  simp only [hkk] at x9 kb
  have hGz : G.size ≤ 400 := by rw [← hgg, ByteArray.size_extract]; omega
  have ewk : IntKind.i64.wrap 17 = 17 := IntWalk.i64_in _ ⟨by omega, by omega⟩
  have zHG : (H ++ G).size = 12 + G.size := by rw [ByteArray.size_append, zH]
  have hov : ¬ 9223372036854775807 < 12 + G.size := by omega
  go_enter Try.func16, Try.ntmps16
  go_wp2_with fail
  have k0 : Below w.heap.size w w := by go_grown
  have p0 := k0.size
  refine (hE _).mono ?_
  rintro e w1 ⟨rfl, hb⟩
  have k1 : Below w.heap.size w w1 := ext_step k0 (by omega) hb
  have p1 := hb.size
  clear hb
  go_wp2_with fail
  obtain ⟨w2, hW0⟩ : ∃ W, W = (w1.alloc (.cells #[.int .i64 D, .int .i64 S, .int .i64 V, .int .i64 T, .string B] 99)) := ⟨_, rfl⟩
  have hb : Below w1.heap.size w1 w2 := by rw [hW0]; go_grown
  have bl0 : w1.heap.size < w2.heap.size := by rw [hW0]; go_size
  have hk0 : Blk w2 (w1.heap.size) 99 [.int .i64 D, .int .i64 S, .int .i64 V, .int .i64 T, .string B] := by rw [hW0]; exact Blk.new _ _ _
  rw [← hW0]
  clear hW0
  have k2 := ext_step k1 (by omega) hb
  have p2 := hb.size
  clear hb
  refine (hN _).mono ?_
  rintro e w3 ⟨rfl, hb⟩
  have k3 : Below w.heap.size w w3 := ext_step k2 (by omega) hb
  have p3 := hb.size
  replace hk0 := hk0.ext hb
  have bl0 := Nat.lt_of_lt_of_le bl0 hb.size
  clear hb
  have bx0_4 := hk0.at_ 4 _ rfl
  go_wp2_with fail
  refine (hP _).mono ?_
  rintro e w4 ⟨rfl, hb⟩
  have k4 : Below w.heap.size w w4 := ext_step k3 (by omega) hb
  have p4 := hb.size
  replace hk0 := hk0.ext hb
  clear bx0_4
  have bl0 := Nat.lt_of_lt_of_le bl0 hb.size
  clear hb
  have bx0_4 := hk0.at_ 4 _ rfl
  go_wp2_with fail
  have hxt := fun t : Ext w4 => t.cell bx0_4
  refine wp_region_ext_lit (by kernel_rfl) (by kernel_rfl) ?_
  repeat (go_big_quiet_step (first | (go_at_call_of 64 ((12 : Int)); exact ext_call (h12 _)) | (go_at_call_of 64 ((16 : Int)); exact ext_call (h16 _)) | (go_at_call 63; exact ext_call (hH _))))
  refine wpQuiet_nil ?_
  intro _ hw'
  obtain ⟨tq, hw''⟩ := hw'
  subst hw''
  have hb := tq.below
  generalize hW0 : tq.wd = w5 at *
  clear hW0 hxt
  have k5 : Below w.heap.size w w5 := ext_step k4 (by omega) hb
  have p5 := hb.size
  replace hk0 := hk0.ext hb
  clear bx0_4
  have bl0 := Nat.lt_of_lt_of_le bl0 hb.size
  clear hb
  go_wp2_with fail
  refine (hSP _).mono ?_
  rintro e w6 ⟨rfl, hb⟩
  have k6 : Below w.heap.size w w6 := ext_step k5 (by omega) hb
  have p6 := hb.size
  replace hk0 := hk0.ext hb
  have bl0 := Nat.lt_of_lt_of_le bl0 hb.size
  clear hb
  go_wp2_with fail
  refine (hK _).mono ?_
  rintro e w7 ⟨rfl, hb⟩
  have k7 : Below w.heap.size w w7 := ext_step k6 (by omega) hb
  have p7 := hb.size
  replace hk0 := hk0.ext hb
  have bl0 := Nat.lt_of_lt_of_le bl0 hb.size
  clear hb
  have bx0_4 := hk0.at_ 4 _ rfl
  go_wp2_with fail
  refine (hC2 _).mono ?_
  rintro e w8 ⟨rfl, hb⟩
  have k8 : Below w.heap.size w w8 := ext_step k7 (by omega) hb
  have p8 := hb.size
  replace hk0 := hk0.ext hb
  clear bx0_4
  have bl0 := Nat.lt_of_lt_of_le bl0 hb.size
  clear hb
  clear  hk0
  go_wp2_with fail
  refine (hW1 _).mono ?_
  rintro e w9 ⟨rfl, hb⟩
  have k9 : Below w.heap.size w w9 := ext_step k8 (by omega) hb
  have p9 := hb.size
  have bl0 := Nat.lt_of_lt_of_le bl0 hb.size
  clear hb
  go_wp2_with fail
  refine (hP1 _).mono ?_
  rintro e w10 ⟨rfl, hb⟩
  have k10 : Below w.heap.size w w10 := ext_step k9 (by omega) hb
  have p10 := hb.size
  have bl0 := Nat.lt_of_lt_of_le bl0 hb.size
  clear hb
  go_wp2_with fail
  refine (hW2 _).mono ?_
  rintro e w11 ⟨rfl, hb⟩
  have k11 : Below w.heap.size w w11 := ext_step k10 (by omega) hb
  have p11 := hb.size
  have bl0 := Nat.lt_of_lt_of_le bl0 hb.size
  clear hb
  go_wp2_with fail
  refine (hP2 _).mono ?_
  rintro e w12 ⟨rfl, hb⟩
  have k12 : Below w.heap.size w w12 := ext_step k11 (by omega) hb
  have p12 := hb.size
  have bl0 := Nat.lt_of_lt_of_le bl0 hb.size
  clear hb
  go_wp2_with fail
  refine (hR _).mono ?_
  rintro e w13 ⟨rfl, hb⟩
  have k13 : Below w.heap.size w w13 := ext_step k12 (by omega) hb
  have p13 := hb.size
  have bl0 := Nat.lt_of_lt_of_le bl0 hb.size
  clear hb
  go_wp2_with fail
  obtain ⟨w14, hW0⟩ : ∃ W, W = (w13.alloc (.cells #[.int .i64 p.dmac, .int .i64 p.smac, .int .i64 p.vlan, .int .i64 p.tos, .int .i64 p.id, .int .i64 p.ttl, .int .i64 p.sip, .int .i64 p.dip, .int .i64 p.seg_kind, .int .i64 p.seg_sport, .int .i64 p.seg_dport, .int .i64 p.seg_seq, .int .i64 p.seg_ack, .int .i64 p.seg_flags, .int .i64 p.seg_win, .string p.seg_body] 31)) := ⟨_, rfl⟩
  have hb : Below w13.heap.size w13 w14 := by rw [hW0]; go_grown
  have bl1 : w13.heap.size < w14.heap.size := by rw [hW0]; go_size
  have hk1 : Blk w14 (w13.heap.size) 31 [.int .i64 p.dmac, .int .i64 p.smac, .int .i64 p.vlan, .int .i64 p.tos, .int .i64 p.id, .int .i64 p.ttl, .int .i64 p.sip, .int .i64 p.dip, .int .i64 p.seg_kind, .int .i64 p.seg_sport, .int .i64 p.seg_dport, .int .i64 p.seg_seq, .int .i64 p.seg_ack, .int .i64 p.seg_flags, .int .i64 p.seg_win, .string p.seg_body] := by rw [hW0]; exact Blk.new _ _ _
  rw [← hW0]
  clear hW0
  have k14 := ext_step k13 (by omega) hb
  have p14 := hb.size
  have bl0 := Nat.lt_of_lt_of_le bl0 hb.size
  clear hb
  refine (hT _).mono ?_
  rintro e w15 ⟨rfl, hb⟩
  have k15 : Below w.heap.size w w15 := ext_step k14 (by omega) hb
  have p15 := hb.size
  replace hk1 := hk1.ext hb
  have bl0 := Nat.lt_of_lt_of_le bl0 hb.size
  have bl1 := Nat.lt_of_lt_of_le bl1 hb.size
  clear hb
  clear  hk1
  go_wp2_with fail
  refine bodyPost_ret (v := .tuple #[.string ByteArray.empty, .bool false]) (by simp [results, Try.results16, go_sem]; rfl) rfl ?_
  exact ⟨rfl, k15⟩
set_option maxRecDepth 100000 in
set_option maxHeartbeats 4000000 in
theorem implFS_aok (t : ByteArray) (w : World) {B B20 G H wx wy t1 t2 tm : ByteArray} {D S V T n a b si di pl xx : Int} {p : Packet} (hE : ∀ u : World, Calls Try.prog 61 #[.string t] u fun e w' => e = .returned (.tuple #[.agg #[.int .i64 D, .int .i64 S, .int .i64 V, .int .i64 T, .string B], .bool true]) ∧ Below u.heap.size u w') (hN : ∀ u : World, Calls Try.prog 62 #[.string B, .int .i64 2] u fun e w' => e = .returned (.int .i64 n) ∧ Below u.heap.size u w') (hP : ∀ u : World, Calls Try.prog 53 #[.string t] u fun e w' => e = .returned (.tuple #[.int .i64 a, .int .i64 b]) ∧ Below u.heap.size u w') (h12 : ∀ u : World, Calls Try.prog 64 #[.string B, .int .i64 12] u fun e w' => e = .returned (.int .i64 si) ∧ Below u.heap.size u w') (h16 : ∀ u : World, Calls Try.prog 64 #[.string B, .int .i64 16] u fun e w' => e = .returned (.int .i64 di) ∧ Below u.heap.size u w') (hH : ∀ u : World, Calls Try.prog 63 #[.int .i64 si, .int .i64 di, .int .i64 17, .int .i64 (G.size : Int)] u fun e w' => e = .returned (.tuple #[.string H, .bool true]) ∧ Below u.heap.size u w') (hSP : ∀ u : World, Calls Try.prog 65 #[.int .i64 17] u fun e w' => e = .returned (.int .i64 pl) ∧ Below u.heap.size u w') (hK : ∀ u : World, Calls Try.prog 66 #[.string (H ++ G)] u fun e w' => e = .returned (.int .i64 0) ∧ Below u.heap.size u w') (hC2 : ∀ u : World, Calls Try.prog 66 #[.string B20] u fun e w' => e = .returned (.int .i64 xx) ∧ Below u.heap.size u w') (hW1 : ∀ u : World, Calls Try.prog 55 #[.int .i64 xx] u fun e w' => e = .returned (.string wx) ∧ Below u.heap.size u w') (hP1 : ∀ u : World, Calls Try.prog 54 #[.string t, .int .i64 a, .string wx] u fun e w' => e = .returned (.string t1) ∧ Below u.heap.size u w') (hW2 : ∀ u : World, Calls Try.prog 55 #[.int .i64 65535] u fun e w' => e = .returned (.string wy) ∧ Below u.heap.size u w') (hP2 : ∀ u : World, Calls Try.prog 54 #[.string t1, .int .i64 b, .string wy] u fun e w' => e = .returned (.string t2) ∧ Below u.heap.size u w') (h20 : 20 ≤ n) (hnB : n ≤ (B.size : Int)) (hBz : B.size ≤ 400) (hB46 : 46 ≤ B.size) (hgg : B.extract 20 n.toNat = G) (hkk : byt B 9 = 17) (hplb : 6 ≤ pl ∧ pl ≤ 16) (hpl : pl + 2 ≤ (G.size : Int)) (zH : H.size = 12) (e_20 : B.extract 0 20 = B20) (hR : ∀ u : World, Calls Try.prog 20 #[.string t2] u fun e w' => e = .returned (.tuple #[.agg #[.int .i64 p.dmac, .int .i64 p.smac, .int .i64 p.vlan, .int .i64 p.tos, .int .i64 p.id, .int .i64 p.ttl, .int .i64 p.sip, .int .i64 p.dip, .int .i64 p.seg_kind, .int .i64 p.seg_sport, .int .i64 p.seg_dport, .int .i64 p.seg_seq, .int .i64 p.seg_ack, .int .i64 p.seg_flags, .int .i64 p.seg_win, .string p.seg_body], .int .i64 0]) ∧ Below u.heap.size u w') (hT : ∀ u : World, Calls Try.prog 14 #[.agg #[.int .i64 p.dmac, .int .i64 p.smac, .int .i64 p.vlan, .int .i64 p.tos, .int .i64 p.id, .int .i64 p.ttl, .int .i64 p.sip, .int .i64 p.dip, .int .i64 p.seg_kind, .int .i64 p.seg_sport, .int .i64 p.seg_dport, .int .i64 p.seg_seq, .int .i64 p.seg_ack, .int .i64 p.seg_flags, .int .i64 p.seg_win, .string p.seg_body]] u fun e w' => e = .returned (.tuple #[.string tm, .bool true]) ∧ Below u.heap.size u w') (hB : ∀ u : World, Calls Try.prog 19 #[.agg #[.int .i64 p.dmac, .int .i64 p.smac, .int .i64 p.vlan, .int .i64 p.tos, .int .i64 p.id, .int .i64 p.ttl, .int .i64 p.sip, .int .i64 p.dip, .int .i64 p.seg_kind, .int .i64 p.seg_sport, .int .i64 p.seg_dport, .int .i64 p.seg_seq, .int .i64 p.seg_ack, .int .i64 p.seg_flags, .int .i64 p.seg_win, .string p.seg_body]] u fun e w' => e = .returned (.tuple #[.string (imgS p), .bool true]) ∧ Below u.heap.size u w') (he : (tm.toList == t.toList) = true) :
    Calls Try.prog 16 #[.string t] w fun e w' => e = .returned (.tuple #[.string (imgS p), .bool true]) ∧ Below w.heap.size w w' := by
  have x9 := idxi (s := B) (i := 9) (k := 9) rfl (by omega)
  have kb := byt_bd B 9
  simp only [hkk] at x9 kb
  have hGz : G.size ≤ 400 := by rw [← hgg, ByteArray.size_extract]; omega
  have ewk : IntKind.i64.wrap 17 = 17 := IntWalk.i64_in _ ⟨by omega, by omega⟩
  have zHG : (H ++ G).size = 12 + G.size := by rw [ByteArray.size_append, zH]
  have hov : ¬ 9223372036854775807 < 12 + G.size := by omega
  go_enter Try.func16, Try.ntmps16
  go_wp2_with fail
  have k0 : Below w.heap.size w w := by go_grown
  have p0 := k0.size
  refine (hE _).mono ?_
  rintro e w1 ⟨rfl, hb⟩
  have k1 : Below w.heap.size w w1 := ext_step k0 (by omega) hb
  have p1 := hb.size
  clear hb
  go_wp2_with fail
  obtain ⟨w2, hW0⟩ : ∃ W, W = (w1.alloc (.cells #[.int .i64 D, .int .i64 S, .int .i64 V, .int .i64 T, .string B] 99)) := ⟨_, rfl⟩
  have hb : Below w1.heap.size w1 w2 := by rw [hW0]; go_grown
  have bl0 : w1.heap.size < w2.heap.size := by rw [hW0]; go_size
  have hk0 : Blk w2 (w1.heap.size) 99 [.int .i64 D, .int .i64 S, .int .i64 V, .int .i64 T, .string B] := by rw [hW0]; exact Blk.new _ _ _
  rw [← hW0]
  clear hW0
  have k2 := ext_step k1 (by omega) hb
  have p2 := hb.size
  clear hb
  refine (hN _).mono ?_
  rintro e w3 ⟨rfl, hb⟩
  have k3 : Below w.heap.size w w3 := ext_step k2 (by omega) hb
  have p3 := hb.size
  replace hk0 := hk0.ext hb
  have bl0 := Nat.lt_of_lt_of_le bl0 hb.size
  clear hb
  have bx0_4 := hk0.at_ 4 _ rfl
  go_wp2_with fail
  refine (hP _).mono ?_
  rintro e w4 ⟨rfl, hb⟩
  have k4 : Below w.heap.size w w4 := ext_step k3 (by omega) hb
  have p4 := hb.size
  replace hk0 := hk0.ext hb
  clear bx0_4
  have bl0 := Nat.lt_of_lt_of_le bl0 hb.size
  clear hb
  have bx0_4 := hk0.at_ 4 _ rfl
  go_wp2_with fail
  have hxt := fun t : Ext w4 => t.cell bx0_4
  refine wp_region_ext_lit (by kernel_rfl) (by kernel_rfl) ?_
  repeat (go_big_quiet_step (first | (go_at_call_of 64 ((12 : Int)); exact ext_call (h12 _)) | (go_at_call_of 64 ((16 : Int)); exact ext_call (h16 _)) | (go_at_call 63; exact ext_call (hH _))))
  refine wpQuiet_nil ?_
  intro _ hw'
  obtain ⟨tq, hw''⟩ := hw'
  subst hw''
  have hb := tq.below
  generalize hW0 : tq.wd = w5 at *
  clear hW0 hxt
  have k5 : Below w.heap.size w w5 := ext_step k4 (by omega) hb
  have p5 := hb.size
  replace hk0 := hk0.ext hb
  clear bx0_4
  have bl0 := Nat.lt_of_lt_of_le bl0 hb.size
  clear hb
  go_wp2_with fail
  refine (hSP _).mono ?_
  rintro e w6 ⟨rfl, hb⟩
  have k6 : Below w.heap.size w w6 := ext_step k5 (by omega) hb
  have p6 := hb.size
  replace hk0 := hk0.ext hb
  have bl0 := Nat.lt_of_lt_of_le bl0 hb.size
  clear hb
  go_wp2_with fail
  refine (hK _).mono ?_
  rintro e w7 ⟨rfl, hb⟩
  have k7 : Below w.heap.size w w7 := ext_step k6 (by omega) hb
  have p7 := hb.size
  replace hk0 := hk0.ext hb
  have bl0 := Nat.lt_of_lt_of_le bl0 hb.size
  clear hb
  have bx0_4 := hk0.at_ 4 _ rfl
  go_wp2_with fail
  refine (hC2 _).mono ?_
  rintro e w8 ⟨rfl, hb⟩
  have k8 : Below w.heap.size w w8 := ext_step k7 (by omega) hb
  have p8 := hb.size
  replace hk0 := hk0.ext hb
  clear bx0_4
  have bl0 := Nat.lt_of_lt_of_le bl0 hb.size
  clear hb
  clear  hk0
  go_wp2_with fail
  refine (hW1 _).mono ?_
  rintro e w9 ⟨rfl, hb⟩
  have k9 : Below w.heap.size w w9 := ext_step k8 (by omega) hb
  have p9 := hb.size
  have bl0 := Nat.lt_of_lt_of_le bl0 hb.size
  clear hb
  go_wp2_with fail
  refine (hP1 _).mono ?_
  rintro e w10 ⟨rfl, hb⟩
  have k10 : Below w.heap.size w w10 := ext_step k9 (by omega) hb
  have p10 := hb.size
  have bl0 := Nat.lt_of_lt_of_le bl0 hb.size
  clear hb
  go_wp2_with fail
  refine (hW2 _).mono ?_
  rintro e w11 ⟨rfl, hb⟩
  have k11 : Below w.heap.size w w11 := ext_step k10 (by omega) hb
  have p11 := hb.size
  have bl0 := Nat.lt_of_lt_of_le bl0 hb.size
  clear hb
  go_wp2_with fail
  refine (hP2 _).mono ?_
  rintro e w12 ⟨rfl, hb⟩
  have k12 : Below w.heap.size w w12 := ext_step k11 (by omega) hb
  have p12 := hb.size
  have bl0 := Nat.lt_of_lt_of_le bl0 hb.size
  clear hb
  go_wp2_with fail
  refine (hR _).mono ?_
  rintro e w13 ⟨rfl, hb⟩
  have k13 : Below w.heap.size w w13 := ext_step k12 (by omega) hb
  have p13 := hb.size
  have bl0 := Nat.lt_of_lt_of_le bl0 hb.size
  clear hb
  go_wp2_with fail
  obtain ⟨w14, hW0⟩ : ∃ W, W = (w13.alloc (.cells #[.int .i64 p.dmac, .int .i64 p.smac, .int .i64 p.vlan, .int .i64 p.tos, .int .i64 p.id, .int .i64 p.ttl, .int .i64 p.sip, .int .i64 p.dip, .int .i64 p.seg_kind, .int .i64 p.seg_sport, .int .i64 p.seg_dport, .int .i64 p.seg_seq, .int .i64 p.seg_ack, .int .i64 p.seg_flags, .int .i64 p.seg_win, .string p.seg_body] 31)) := ⟨_, rfl⟩
  have hb : Below w13.heap.size w13 w14 := by rw [hW0]; go_grown
  have bl1 : w13.heap.size < w14.heap.size := by rw [hW0]; go_size
  have hk1 : Blk w14 (w13.heap.size) 31 [.int .i64 p.dmac, .int .i64 p.smac, .int .i64 p.vlan, .int .i64 p.tos, .int .i64 p.id, .int .i64 p.ttl, .int .i64 p.sip, .int .i64 p.dip, .int .i64 p.seg_kind, .int .i64 p.seg_sport, .int .i64 p.seg_dport, .int .i64 p.seg_seq, .int .i64 p.seg_ack, .int .i64 p.seg_flags, .int .i64 p.seg_win, .string p.seg_body] := by rw [hW0]; exact Blk.new _ _ _
  rw [← hW0]
  clear hW0
  have k14 := ext_step k13 (by omega) hb
  have p14 := hb.size
  have bl0 := Nat.lt_of_lt_of_le bl0 hb.size
  clear hb
  refine (hT _).mono ?_
  rintro e w15 ⟨rfl, hb⟩
  have k15 : Below w.heap.size w w15 := ext_step k14 (by omega) hb
  have p15 := hb.size
  replace hk1 := hk1.ext hb
  have bl0 := Nat.lt_of_lt_of_le bl0 hb.size
  have bl1 := Nat.lt_of_lt_of_le bl1 hb.size
  clear hb
  have bx1_0 := hk1.at_ 0 _ rfl
  have bx1_1 := hk1.at_ 1 _ rfl
  have bx1_2 := hk1.at_ 2 _ rfl
  have bx1_3 := hk1.at_ 3 _ rfl
  have bx1_4 := hk1.at_ 4 _ rfl
  have bx1_5 := hk1.at_ 5 _ rfl
  have bx1_6 := hk1.at_ 6 _ rfl
  have bx1_7 := hk1.at_ 7 _ rfl
  have bx1_8 := hk1.at_ 8 _ rfl
  have bx1_9 := hk1.at_ 9 _ rfl
  have bx1_10 := hk1.at_ 10 _ rfl
  have bx1_11 := hk1.at_ 11 _ rfl
  have bx1_12 := hk1.at_ 12 _ rfl
  have bx1_13 := hk1.at_ 13 _ rfl
  have bx1_14 := hk1.at_ 14 _ rfl
  have bx1_15 := hk1.at_ 15 _ rfl
  go_wp2_with fail
  refine (hB _).mono ?_
  rintro e w16 ⟨rfl, hb⟩
  have k16 : Below w.heap.size w w16 := ext_step k15 (by omega) hb
  have p16 := hb.size
  replace hk1 := hk1.ext hb
  clear bx1_0 bx1_1 bx1_2 bx1_3 bx1_4 bx1_5 bx1_6 bx1_7 bx1_8 bx1_9 bx1_10 bx1_11 bx1_12 bx1_13 bx1_14 bx1_15
  have bl0 := Nat.lt_of_lt_of_le bl0 hb.size
  have bl1 := Nat.lt_of_lt_of_le bl1 hb.size
  clear hb
  go_wp2_with fail
  refine bodyPost_ret (v := .tuple #[.string (imgS p), .bool true]) (by simp [results, Try.results16, go_sem]) rfl ?_
  exact ⟨rfl, k16⟩
set_option maxRecDepth 100000 in
set_option maxHeartbeats 4000000 in
theorem implFS_ar0 (t : ByteArray) (w : World) {B B20 G H wx wy t1 t2 : ByteArray} {D S V T n a b si di pl xx c : Int} (hE : ∀ u : World, Calls Try.prog 61 #[.string t] u fun e w' => e = .returned (.tuple #[.agg #[.int .i64 D, .int .i64 S, .int .i64 V, .int .i64 T, .string B], .bool true]) ∧ Below u.heap.size u w') (hN : ∀ u : World, Calls Try.prog 62 #[.string B, .int .i64 2] u fun e w' => e = .returned (.int .i64 n) ∧ Below u.heap.size u w') (hP : ∀ u : World, Calls Try.prog 53 #[.string t] u fun e w' => e = .returned (.tuple #[.int .i64 a, .int .i64 b]) ∧ Below u.heap.size u w') (h12 : ∀ u : World, Calls Try.prog 64 #[.string B, .int .i64 12] u fun e w' => e = .returned (.int .i64 si) ∧ Below u.heap.size u w') (h16 : ∀ u : World, Calls Try.prog 64 #[.string B, .int .i64 16] u fun e w' => e = .returned (.int .i64 di) ∧ Below u.heap.size u w') (hH : ∀ u : World, Calls Try.prog 63 #[.int .i64 si, .int .i64 di, .int .i64 17, .int .i64 (G.size : Int)] u fun e w' => e = .returned (.tuple #[.string H, .bool true]) ∧ Below u.heap.size u w') (hSP : ∀ u : World, Calls Try.prog 65 #[.int .i64 17] u fun e w' => e = .returned (.int .i64 pl) ∧ Below u.heap.size u w') (hK : ∀ u : World, Calls Try.prog 66 #[.string (H ++ G)] u fun e w' => e = .returned (.int .i64 0) ∧ Below u.heap.size u w') (hC2 : ∀ u : World, Calls Try.prog 66 #[.string B20] u fun e w' => e = .returned (.int .i64 xx) ∧ Below u.heap.size u w') (hW1 : ∀ u : World, Calls Try.prog 55 #[.int .i64 xx] u fun e w' => e = .returned (.string wx) ∧ Below u.heap.size u w') (hP1 : ∀ u : World, Calls Try.prog 54 #[.string t, .int .i64 a, .string wx] u fun e w' => e = .returned (.string t1) ∧ Below u.heap.size u w') (hW2 : ∀ u : World, Calls Try.prog 55 #[.int .i64 65535] u fun e w' => e = .returned (.string wy) ∧ Below u.heap.size u w') (hP2 : ∀ u : World, Calls Try.prog 54 #[.string t1, .int .i64 b, .string wy] u fun e w' => e = .returned (.string t2) ∧ Below u.heap.size u w') (h20 : 20 ≤ n) (hnB : n ≤ (B.size : Int)) (hBz : B.size ≤ 400) (hB46 : 46 ≤ B.size) (hgg : B.extract 20 n.toNat = G) (hkk : byt B 9 = 17) (hplb : 6 ≤ pl ∧ pl ≤ 16) (hpl : pl + 2 ≤ (G.size : Int)) (zH : H.size = 12) (e_20 : B.extract 0 20 = B20) (hR : ∀ u : World, Calls Try.prog 20 #[.string t2] u fun e w' => e = .returned (.tuple #[.agg #[.int .i64 0, .int .i64 0, .int .i64 0, .int .i64 0, .int .i64 0, .int .i64 0, .int .i64 0, .int .i64 0, .int .i64 0, .int .i64 0, .int .i64 0, .int .i64 0, .int .i64 0, .int .i64 0, .int .i64 0, .string ByteArray.empty], .int .i64 c]) ∧ Below u.heap.size u w') (hT : ∀ u : World, Calls Try.prog 14 #[.agg #[.int .i64 0, .int .i64 0, .int .i64 0, .int .i64 0, .int .i64 0, .int .i64 0, .int .i64 0, .int .i64 0, .int .i64 0, .int .i64 0, .int .i64 0, .int .i64 0, .int .i64 0, .int .i64 0, .int .i64 0, .string ByteArray.empty]] u fun e w' => e = .returned (.tuple #[.string ByteArray.empty, .bool false]) ∧ Below u.heap.size u w') (hc : ¬ c = 0) :
    Calls Try.prog 16 #[.string t] w fun e w' => e = .returned (.tuple #[.string ByteArray.empty, .bool false]) ∧ Below w.heap.size w w' := by
  have x9 := idxi (s := B) (i := 9) (k := 9) rfl (by omega)
  have kb := byt_bd B 9
  simp only [hkk] at x9 kb
  have hGz : G.size ≤ 400 := by rw [← hgg, ByteArray.size_extract]; omega
  have ewk : IntKind.i64.wrap 17 = 17 := IntWalk.i64_in _ ⟨by omega, by omega⟩
  have zHG : (H ++ G).size = 12 + G.size := by rw [ByteArray.size_append, zH]
  have hov : ¬ 9223372036854775807 < 12 + G.size := by omega
  go_enter Try.func16, Try.ntmps16
  go_wp2_with fail
  have k0 : Below w.heap.size w w := by go_grown
  have p0 := k0.size
  refine (hE _).mono ?_
  rintro e w1 ⟨rfl, hb⟩
  have k1 : Below w.heap.size w w1 := ext_step k0 (by omega) hb
  have p1 := hb.size
  clear hb
  go_wp2_with fail
  obtain ⟨w2, hW0⟩ : ∃ W, W = (w1.alloc (.cells #[.int .i64 D, .int .i64 S, .int .i64 V, .int .i64 T, .string B] 99)) := ⟨_, rfl⟩
  have hb : Below w1.heap.size w1 w2 := by rw [hW0]; go_grown
  have bl0 : w1.heap.size < w2.heap.size := by rw [hW0]; go_size
  have hk0 : Blk w2 (w1.heap.size) 99 [.int .i64 D, .int .i64 S, .int .i64 V, .int .i64 T, .string B] := by rw [hW0]; exact Blk.new _ _ _
  rw [← hW0]
  clear hW0
  have k2 := ext_step k1 (by omega) hb
  have p2 := hb.size
  clear hb
  refine (hN _).mono ?_
  rintro e w3 ⟨rfl, hb⟩
  have k3 : Below w.heap.size w w3 := ext_step k2 (by omega) hb
  have p3 := hb.size
  replace hk0 := hk0.ext hb
  have bl0 := Nat.lt_of_lt_of_le bl0 hb.size
  clear hb
  have bx0_4 := hk0.at_ 4 _ rfl
  go_wp2_with fail
  refine (hP _).mono ?_
  rintro e w4 ⟨rfl, hb⟩
  have k4 : Below w.heap.size w w4 := ext_step k3 (by omega) hb
  have p4 := hb.size
  replace hk0 := hk0.ext hb
  clear bx0_4
  have bl0 := Nat.lt_of_lt_of_le bl0 hb.size
  clear hb
  have bx0_4 := hk0.at_ 4 _ rfl
  go_wp2_with fail
  have hxt := fun t : Ext w4 => t.cell bx0_4
  refine wp_region_ext_lit (by kernel_rfl) (by kernel_rfl) ?_
  repeat (go_big_quiet_step (first | (go_at_call_of 64 ((12 : Int)); exact ext_call (h12 _)) | (go_at_call_of 64 ((16 : Int)); exact ext_call (h16 _)) | (go_at_call 63; exact ext_call (hH _))))
  refine wpQuiet_nil ?_
  intro _ hw'
  obtain ⟨tq, hw''⟩ := hw'
  subst hw''
  have hb := tq.below
  generalize hW0 : tq.wd = w5 at *
  clear hW0 hxt
  have k5 : Below w.heap.size w w5 := ext_step k4 (by omega) hb
  have p5 := hb.size
  replace hk0 := hk0.ext hb
  clear bx0_4
  have bl0 := Nat.lt_of_lt_of_le bl0 hb.size
  clear hb
  go_wp2_with fail
  refine (hSP _).mono ?_
  rintro e w6 ⟨rfl, hb⟩
  have k6 : Below w.heap.size w w6 := ext_step k5 (by omega) hb
  have p6 := hb.size
  replace hk0 := hk0.ext hb
  have bl0 := Nat.lt_of_lt_of_le bl0 hb.size
  clear hb
  go_wp2_with fail
  refine (hK _).mono ?_
  rintro e w7 ⟨rfl, hb⟩
  have k7 : Below w.heap.size w w7 := ext_step k6 (by omega) hb
  have p7 := hb.size
  replace hk0 := hk0.ext hb
  have bl0 := Nat.lt_of_lt_of_le bl0 hb.size
  clear hb
  have bx0_4 := hk0.at_ 4 _ rfl
  go_wp2_with fail
  refine (hC2 _).mono ?_
  rintro e w8 ⟨rfl, hb⟩
  have k8 : Below w.heap.size w w8 := ext_step k7 (by omega) hb
  have p8 := hb.size
  replace hk0 := hk0.ext hb
  clear bx0_4
  have bl0 := Nat.lt_of_lt_of_le bl0 hb.size
  clear hb
  clear  hk0
  go_wp2_with fail
  refine (hW1 _).mono ?_
  rintro e w9 ⟨rfl, hb⟩
  have k9 : Below w.heap.size w w9 := ext_step k8 (by omega) hb
  have p9 := hb.size
  have bl0 := Nat.lt_of_lt_of_le bl0 hb.size
  clear hb
  go_wp2_with fail
  refine (hP1 _).mono ?_
  rintro e w10 ⟨rfl, hb⟩
  have k10 : Below w.heap.size w w10 := ext_step k9 (by omega) hb
  have p10 := hb.size
  have bl0 := Nat.lt_of_lt_of_le bl0 hb.size
  clear hb
  go_wp2_with fail
  refine (hW2 _).mono ?_
  rintro e w11 ⟨rfl, hb⟩
  have k11 : Below w.heap.size w w11 := ext_step k10 (by omega) hb
  have p11 := hb.size
  have bl0 := Nat.lt_of_lt_of_le bl0 hb.size
  clear hb
  go_wp2_with fail
  refine (hP2 _).mono ?_
  rintro e w12 ⟨rfl, hb⟩
  have k12 : Below w.heap.size w w12 := ext_step k11 (by omega) hb
  have p12 := hb.size
  have bl0 := Nat.lt_of_lt_of_le bl0 hb.size
  clear hb
  go_wp2_with fail
  refine (hR _).mono ?_
  rintro e w13 ⟨rfl, hb⟩
  have k13 : Below w.heap.size w w13 := ext_step k12 (by omega) hb
  have p13 := hb.size
  have bl0 := Nat.lt_of_lt_of_le bl0 hb.size
  clear hb
  go_wp2_with fail
  obtain ⟨w14, hW0⟩ : ∃ W, W = (w13.alloc (.cells #[.int .i64 0, .int .i64 0, .int .i64 0, .int .i64 0, .int .i64 0, .int .i64 0, .int .i64 0, .int .i64 0, .int .i64 0, .int .i64 0, .int .i64 0, .int .i64 0, .int .i64 0, .int .i64 0, .int .i64 0, .string ByteArray.empty] 31)) := ⟨_, rfl⟩
  have hb : Below w13.heap.size w13 w14 := by rw [hW0]; go_grown
  have bl1 : w13.heap.size < w14.heap.size := by rw [hW0]; go_size
  have hk1 : Blk w14 (w13.heap.size) 31 [.int .i64 0, .int .i64 0, .int .i64 0, .int .i64 0, .int .i64 0, .int .i64 0, .int .i64 0, .int .i64 0, .int .i64 0, .int .i64 0, .int .i64 0, .int .i64 0, .int .i64 0, .int .i64 0, .int .i64 0, .string ByteArray.empty] := by rw [hW0]; exact Blk.new _ _ _
  rw [← hW0]
  clear hW0
  have k14 := ext_step k13 (by omega) hb
  have p14 := hb.size
  have bl0 := Nat.lt_of_lt_of_le bl0 hb.size
  clear hb
  refine (hT _).mono ?_
  rintro e w15 ⟨rfl, hb⟩
  have k15 : Below w.heap.size w w15 := ext_step k14 (by omega) hb
  have p15 := hb.size
  replace hk1 := hk1.ext hb
  have bl0 := Nat.lt_of_lt_of_le bl0 hb.size
  have bl1 := Nat.lt_of_lt_of_le bl1 hb.size
  clear hb
  clear  hk1
  go_wp2_with fail
  refine bodyPost_ret (v := .tuple #[.string ByteArray.empty, .bool false]) (by simp [results, Try.results16, go_sem]; rfl) rfl ?_
  exact ⟨rfl, k15⟩
set_option maxRecDepth 100000 in
set_option maxHeartbeats 4000000 in
theorem implFS_btn (t : ByteArray) (w : World) {B B20 G H wx wy t1 t2 tm : ByteArray} {D S V T n a b si di pl x xx : Int} {p : Packet} (hE : ∀ u : World, Calls Try.prog 61 #[.string t] u fun e w' => e = .returned (.tuple #[.agg #[.int .i64 D, .int .i64 S, .int .i64 V, .int .i64 T, .string B], .bool true]) ∧ Below u.heap.size u w') (hN : ∀ u : World, Calls Try.prog 62 #[.string B, .int .i64 2] u fun e w' => e = .returned (.int .i64 n) ∧ Below u.heap.size u w') (hP : ∀ u : World, Calls Try.prog 53 #[.string t] u fun e w' => e = .returned (.tuple #[.int .i64 a, .int .i64 b]) ∧ Below u.heap.size u w') (h12 : ∀ u : World, Calls Try.prog 64 #[.string B, .int .i64 12] u fun e w' => e = .returned (.int .i64 si) ∧ Below u.heap.size u w') (h16 : ∀ u : World, Calls Try.prog 64 #[.string B, .int .i64 16] u fun e w' => e = .returned (.int .i64 di) ∧ Below u.heap.size u w') (hH : ∀ u : World, Calls Try.prog 63 #[.int .i64 si, .int .i64 di, .int .i64 17, .int .i64 (G.size : Int)] u fun e w' => e = .returned (.tuple #[.string H, .bool true]) ∧ Below u.heap.size u w') (hSP : ∀ u : World, Calls Try.prog 65 #[.int .i64 17] u fun e w' => e = .returned (.int .i64 pl) ∧ Below u.heap.size u w') (hK : ∀ u : World, Calls Try.prog 66 #[.string (H ++ G)] u fun e w' => e = .returned (.int .i64 x) ∧ Below u.heap.size u w') (hC2 : ∀ u : World, Calls Try.prog 66 #[.string B20] u fun e w' => e = .returned (.int .i64 xx) ∧ Below u.heap.size u w') (hW1 : ∀ u : World, Calls Try.prog 55 #[.int .i64 xx] u fun e w' => e = .returned (.string wx) ∧ Below u.heap.size u w') (hP1 : ∀ u : World, Calls Try.prog 54 #[.string t, .int .i64 a, .string wx] u fun e w' => e = .returned (.string t1) ∧ Below u.heap.size u w') (hW2 : ∀ u : World, Calls Try.prog 55 #[.int .i64 x] u fun e w' => e = .returned (.string wy) ∧ Below u.heap.size u w') (hP2 : ∀ u : World, Calls Try.prog 54 #[.string t1, .int .i64 b, .string wy] u fun e w' => e = .returned (.string t2) ∧ Below u.heap.size u w') (h20 : 20 ≤ n) (hnB : n ≤ (B.size : Int)) (hBz : B.size ≤ 400) (hB46 : 46 ≤ B.size) (hgg : B.extract 20 n.toNat = G) (hkk : byt B 9 = 17) (hplb : 6 ≤ pl ∧ pl ≤ 16) (hpl : pl + 2 ≤ (G.size : Int)) (zH : H.size = 12) (e_20 : B.extract 0 20 = B20) (hx0 : ¬ x = 0) (hR : ∀ u : World, Calls Try.prog 20 #[.string t2] u fun e w' => e = .returned (.tuple #[.agg #[.int .i64 p.dmac, .int .i64 p.smac, .int .i64 p.vlan, .int .i64 p.tos, .int .i64 p.id, .int .i64 p.ttl, .int .i64 p.sip, .int .i64 p.dip, .int .i64 p.seg_kind, .int .i64 p.seg_sport, .int .i64 p.seg_dport, .int .i64 p.seg_seq, .int .i64 p.seg_ack, .int .i64 p.seg_flags, .int .i64 p.seg_win, .string p.seg_body], .int .i64 0]) ∧ Below u.heap.size u w') (hT : ∀ u : World, Calls Try.prog 14 #[.agg #[.int .i64 p.dmac, .int .i64 p.smac, .int .i64 p.vlan, .int .i64 p.tos, .int .i64 p.id, .int .i64 p.ttl, .int .i64 p.sip, .int .i64 p.dip, .int .i64 p.seg_kind, .int .i64 p.seg_sport, .int .i64 p.seg_dport, .int .i64 p.seg_seq, .int .i64 p.seg_ack, .int .i64 p.seg_flags, .int .i64 p.seg_win, .string p.seg_body]] u fun e w' => e = .returned (.tuple #[.string tm, .bool true]) ∧ Below u.heap.size u w') (he : (tm.toList == t.toList) = false) :
    Calls Try.prog 16 #[.string t] w fun e w' => e = .returned (.tuple #[.string ByteArray.empty, .bool false]) ∧ Below w.heap.size w w' := by
  have x9 := idxi (s := B) (i := 9) (k := 9) rfl (by omega)
  have kb := byt_bd B 9
  simp only [hkk] at x9 kb
  have hGz : G.size ≤ 400 := by rw [← hgg, ByteArray.size_extract]; omega
  have ewk : IntKind.i64.wrap 17 = 17 := IntWalk.i64_in _ ⟨by omega, by omega⟩
  have zHG : (H ++ G).size = 12 + G.size := by rw [ByteArray.size_append, zH]
  have hov : ¬ 9223372036854775807 < 12 + G.size := by omega
  go_enter Try.func16, Try.ntmps16
  go_wp2_with fail
  have k0 : Below w.heap.size w w := by go_grown
  have p0 := k0.size
  refine (hE _).mono ?_
  rintro e w1 ⟨rfl, hb⟩
  have k1 : Below w.heap.size w w1 := ext_step k0 (by omega) hb
  have p1 := hb.size
  clear hb
  go_wp2_with fail
  obtain ⟨w2, hW0⟩ : ∃ W, W = (w1.alloc (.cells #[.int .i64 D, .int .i64 S, .int .i64 V, .int .i64 T, .string B] 99)) := ⟨_, rfl⟩
  have hb : Below w1.heap.size w1 w2 := by rw [hW0]; go_grown
  have bl0 : w1.heap.size < w2.heap.size := by rw [hW0]; go_size
  have hk0 : Blk w2 (w1.heap.size) 99 [.int .i64 D, .int .i64 S, .int .i64 V, .int .i64 T, .string B] := by rw [hW0]; exact Blk.new _ _ _
  rw [← hW0]
  clear hW0
  have k2 := ext_step k1 (by omega) hb
  have p2 := hb.size
  clear hb
  refine (hN _).mono ?_
  rintro e w3 ⟨rfl, hb⟩
  have k3 : Below w.heap.size w w3 := ext_step k2 (by omega) hb
  have p3 := hb.size
  replace hk0 := hk0.ext hb
  have bl0 := Nat.lt_of_lt_of_le bl0 hb.size
  clear hb
  have bx0_4 := hk0.at_ 4 _ rfl
  go_wp2_with fail
  refine (hP _).mono ?_
  rintro e w4 ⟨rfl, hb⟩
  have k4 : Below w.heap.size w w4 := ext_step k3 (by omega) hb
  have p4 := hb.size
  replace hk0 := hk0.ext hb
  clear bx0_4
  have bl0 := Nat.lt_of_lt_of_le bl0 hb.size
  clear hb
  have bx0_4 := hk0.at_ 4 _ rfl
  go_wp2_with fail
  have hxt := fun t : Ext w4 => t.cell bx0_4
  refine wp_region_ext_lit (by kernel_rfl) (by kernel_rfl) ?_
  repeat (go_big_quiet_step (first | (go_at_call_of 64 ((12 : Int)); exact ext_call (h12 _)) | (go_at_call_of 64 ((16 : Int)); exact ext_call (h16 _)) | (go_at_call 63; exact ext_call (hH _))))
  refine wpQuiet_nil ?_
  intro _ hw'
  obtain ⟨tq, hw''⟩ := hw'
  subst hw''
  have hb := tq.below
  generalize hW0 : tq.wd = w5 at *
  clear hW0 hxt
  have k5 : Below w.heap.size w w5 := ext_step k4 (by omega) hb
  have p5 := hb.size
  replace hk0 := hk0.ext hb
  clear bx0_4
  have bl0 := Nat.lt_of_lt_of_le bl0 hb.size
  clear hb
  go_wp2_with fail
  refine (hSP _).mono ?_
  rintro e w6 ⟨rfl, hb⟩
  have k6 : Below w.heap.size w w6 := ext_step k5 (by omega) hb
  have p6 := hb.size
  replace hk0 := hk0.ext hb
  have bl0 := Nat.lt_of_lt_of_le bl0 hb.size
  clear hb
  go_wp2_with fail
  refine (hK _).mono ?_
  rintro e w7 ⟨rfl, hb⟩
  have k7 : Below w.heap.size w w7 := ext_step k6 (by omega) hb
  have p7 := hb.size
  replace hk0 := hk0.ext hb
  have bl0 := Nat.lt_of_lt_of_le bl0 hb.size
  clear hb
  have bx0_4 := hk0.at_ 4 _ rfl
  go_wp2_with fail
  refine (hC2 _).mono ?_
  rintro e w8 ⟨rfl, hb⟩
  have k8 : Below w.heap.size w w8 := ext_step k7 (by omega) hb
  have p8 := hb.size
  replace hk0 := hk0.ext hb
  clear bx0_4
  have bl0 := Nat.lt_of_lt_of_le bl0 hb.size
  clear hb
  clear  hk0
  go_wp2_with fail
  refine (hW1 _).mono ?_
  rintro e w9 ⟨rfl, hb⟩
  have k9 : Below w.heap.size w w9 := ext_step k8 (by omega) hb
  have p9 := hb.size
  have bl0 := Nat.lt_of_lt_of_le bl0 hb.size
  clear hb
  go_wp2_with fail
  refine (hP1 _).mono ?_
  rintro e w10 ⟨rfl, hb⟩
  have k10 : Below w.heap.size w w10 := ext_step k9 (by omega) hb
  have p10 := hb.size
  have bl0 := Nat.lt_of_lt_of_le bl0 hb.size
  clear hb
  go_wp2_with fail
  refine (hW2 _).mono ?_
  rintro e w11 ⟨rfl, hb⟩
  have k11 : Below w.heap.size w w11 := ext_step k10 (by omega) hb
  have p11 := hb.size
  have bl0 := Nat.lt_of_lt_of_le bl0 hb.size
  clear hb
  go_wp2_with fail
  refine (hP2 _).mono ?_
  rintro e w12 ⟨rfl, hb⟩
  have k12 : Below w.heap.size w w12 := ext_step k11 (by omega) hb
  have p12 := hb.size
  have bl0 := Nat.lt_of_lt_of_le bl0 hb.size
  clear hb
  go_wp2_with fail
  refine (hR _).mono ?_
  rintro e w13 ⟨rfl, hb⟩
  have k13 : Below w.heap.size w w13 := ext_step k12 (by omega) hb
  have p13 := hb.size
  have bl0 := Nat.lt_of_lt_of_le bl0 hb.size
  clear hb
  go_wp2_with fail
  obtain ⟨w14, hW0⟩ : ∃ W, W = (w13.alloc (.cells #[.int .i64 p.dmac, .int .i64 p.smac, .int .i64 p.vlan, .int .i64 p.tos, .int .i64 p.id, .int .i64 p.ttl, .int .i64 p.sip, .int .i64 p.dip, .int .i64 p.seg_kind, .int .i64 p.seg_sport, .int .i64 p.seg_dport, .int .i64 p.seg_seq, .int .i64 p.seg_ack, .int .i64 p.seg_flags, .int .i64 p.seg_win, .string p.seg_body] 31)) := ⟨_, rfl⟩
  have hb : Below w13.heap.size w13 w14 := by rw [hW0]; go_grown
  have bl1 : w13.heap.size < w14.heap.size := by rw [hW0]; go_size
  have hk1 : Blk w14 (w13.heap.size) 31 [.int .i64 p.dmac, .int .i64 p.smac, .int .i64 p.vlan, .int .i64 p.tos, .int .i64 p.id, .int .i64 p.ttl, .int .i64 p.sip, .int .i64 p.dip, .int .i64 p.seg_kind, .int .i64 p.seg_sport, .int .i64 p.seg_dport, .int .i64 p.seg_seq, .int .i64 p.seg_ack, .int .i64 p.seg_flags, .int .i64 p.seg_win, .string p.seg_body] := by rw [hW0]; exact Blk.new _ _ _
  rw [← hW0]
  clear hW0
  have k14 := ext_step k13 (by omega) hb
  have p14 := hb.size
  have bl0 := Nat.lt_of_lt_of_le bl0 hb.size
  clear hb
  refine (hT _).mono ?_
  rintro e w15 ⟨rfl, hb⟩
  have k15 : Below w.heap.size w w15 := ext_step k14 (by omega) hb
  have p15 := hb.size
  replace hk1 := hk1.ext hb
  have bl0 := Nat.lt_of_lt_of_le bl0 hb.size
  have bl1 := Nat.lt_of_lt_of_le bl1 hb.size
  clear hb
  clear  hk1
  go_wp2_with fail
  refine bodyPost_ret (v := .tuple #[.string ByteArray.empty, .bool false]) (by simp [results, Try.results16, go_sem]; rfl) rfl ?_
  exact ⟨rfl, k15⟩
set_option maxRecDepth 100000 in
set_option maxHeartbeats 4000000 in
theorem implFS_bok (t : ByteArray) (w : World) {B B20 G H wx wy t1 t2 tm : ByteArray} {D S V T n a b si di pl x xx : Int} {p : Packet} (hE : ∀ u : World, Calls Try.prog 61 #[.string t] u fun e w' => e = .returned (.tuple #[.agg #[.int .i64 D, .int .i64 S, .int .i64 V, .int .i64 T, .string B], .bool true]) ∧ Below u.heap.size u w') (hN : ∀ u : World, Calls Try.prog 62 #[.string B, .int .i64 2] u fun e w' => e = .returned (.int .i64 n) ∧ Below u.heap.size u w') (hP : ∀ u : World, Calls Try.prog 53 #[.string t] u fun e w' => e = .returned (.tuple #[.int .i64 a, .int .i64 b]) ∧ Below u.heap.size u w') (h12 : ∀ u : World, Calls Try.prog 64 #[.string B, .int .i64 12] u fun e w' => e = .returned (.int .i64 si) ∧ Below u.heap.size u w') (h16 : ∀ u : World, Calls Try.prog 64 #[.string B, .int .i64 16] u fun e w' => e = .returned (.int .i64 di) ∧ Below u.heap.size u w') (hH : ∀ u : World, Calls Try.prog 63 #[.int .i64 si, .int .i64 di, .int .i64 17, .int .i64 (G.size : Int)] u fun e w' => e = .returned (.tuple #[.string H, .bool true]) ∧ Below u.heap.size u w') (hSP : ∀ u : World, Calls Try.prog 65 #[.int .i64 17] u fun e w' => e = .returned (.int .i64 pl) ∧ Below u.heap.size u w') (hK : ∀ u : World, Calls Try.prog 66 #[.string (H ++ G)] u fun e w' => e = .returned (.int .i64 x) ∧ Below u.heap.size u w') (hC2 : ∀ u : World, Calls Try.prog 66 #[.string B20] u fun e w' => e = .returned (.int .i64 xx) ∧ Below u.heap.size u w') (hW1 : ∀ u : World, Calls Try.prog 55 #[.int .i64 xx] u fun e w' => e = .returned (.string wx) ∧ Below u.heap.size u w') (hP1 : ∀ u : World, Calls Try.prog 54 #[.string t, .int .i64 a, .string wx] u fun e w' => e = .returned (.string t1) ∧ Below u.heap.size u w') (hW2 : ∀ u : World, Calls Try.prog 55 #[.int .i64 x] u fun e w' => e = .returned (.string wy) ∧ Below u.heap.size u w') (hP2 : ∀ u : World, Calls Try.prog 54 #[.string t1, .int .i64 b, .string wy] u fun e w' => e = .returned (.string t2) ∧ Below u.heap.size u w') (h20 : 20 ≤ n) (hnB : n ≤ (B.size : Int)) (hBz : B.size ≤ 400) (hB46 : 46 ≤ B.size) (hgg : B.extract 20 n.toNat = G) (hkk : byt B 9 = 17) (hplb : 6 ≤ pl ∧ pl ≤ 16) (hpl : pl + 2 ≤ (G.size : Int)) (zH : H.size = 12) (e_20 : B.extract 0 20 = B20) (hx0 : ¬ x = 0) (hR : ∀ u : World, Calls Try.prog 20 #[.string t2] u fun e w' => e = .returned (.tuple #[.agg #[.int .i64 p.dmac, .int .i64 p.smac, .int .i64 p.vlan, .int .i64 p.tos, .int .i64 p.id, .int .i64 p.ttl, .int .i64 p.sip, .int .i64 p.dip, .int .i64 p.seg_kind, .int .i64 p.seg_sport, .int .i64 p.seg_dport, .int .i64 p.seg_seq, .int .i64 p.seg_ack, .int .i64 p.seg_flags, .int .i64 p.seg_win, .string p.seg_body], .int .i64 0]) ∧ Below u.heap.size u w') (hT : ∀ u : World, Calls Try.prog 14 #[.agg #[.int .i64 p.dmac, .int .i64 p.smac, .int .i64 p.vlan, .int .i64 p.tos, .int .i64 p.id, .int .i64 p.ttl, .int .i64 p.sip, .int .i64 p.dip, .int .i64 p.seg_kind, .int .i64 p.seg_sport, .int .i64 p.seg_dport, .int .i64 p.seg_seq, .int .i64 p.seg_ack, .int .i64 p.seg_flags, .int .i64 p.seg_win, .string p.seg_body]] u fun e w' => e = .returned (.tuple #[.string tm, .bool true]) ∧ Below u.heap.size u w') (hB : ∀ u : World, Calls Try.prog 19 #[.agg #[.int .i64 p.dmac, .int .i64 p.smac, .int .i64 p.vlan, .int .i64 p.tos, .int .i64 p.id, .int .i64 p.ttl, .int .i64 p.sip, .int .i64 p.dip, .int .i64 p.seg_kind, .int .i64 p.seg_sport, .int .i64 p.seg_dport, .int .i64 p.seg_seq, .int .i64 p.seg_ack, .int .i64 p.seg_flags, .int .i64 p.seg_win, .string p.seg_body]] u fun e w' => e = .returned (.tuple #[.string (imgS p), .bool true]) ∧ Below u.heap.size u w') (he : (tm.toList == t.toList) = true) :
    Calls Try.prog 16 #[.string t] w fun e w' => e = .returned (.tuple #[.string (imgS p), .bool true]) ∧ Below w.heap.size w w' := by
  have x9 := idxi (s := B) (i := 9) (k := 9) rfl (by omega)
  have kb := byt_bd B 9
  simp only [hkk] at x9 kb
  have hGz : G.size ≤ 400 := by rw [← hgg, ByteArray.size_extract]; omega
  have ewk : IntKind.i64.wrap 17 = 17 := IntWalk.i64_in _ ⟨by omega, by omega⟩
  have zHG : (H ++ G).size = 12 + G.size := by rw [ByteArray.size_append, zH]
  have hov : ¬ 9223372036854775807 < 12 + G.size := by omega
  go_enter Try.func16, Try.ntmps16
  go_wp2_with fail
  have k0 : Below w.heap.size w w := by go_grown
  have p0 := k0.size
  refine (hE _).mono ?_
  rintro e w1 ⟨rfl, hb⟩
  have k1 : Below w.heap.size w w1 := ext_step k0 (by omega) hb
  have p1 := hb.size
  clear hb
  go_wp2_with fail
  obtain ⟨w2, hW0⟩ : ∃ W, W = (w1.alloc (.cells #[.int .i64 D, .int .i64 S, .int .i64 V, .int .i64 T, .string B] 99)) := ⟨_, rfl⟩
  have hb : Below w1.heap.size w1 w2 := by rw [hW0]; go_grown
  have bl0 : w1.heap.size < w2.heap.size := by rw [hW0]; go_size
  have hk0 : Blk w2 (w1.heap.size) 99 [.int .i64 D, .int .i64 S, .int .i64 V, .int .i64 T, .string B] := by rw [hW0]; exact Blk.new _ _ _
  rw [← hW0]
  clear hW0
  have k2 := ext_step k1 (by omega) hb
  have p2 := hb.size
  clear hb
  refine (hN _).mono ?_
  rintro e w3 ⟨rfl, hb⟩
  have k3 : Below w.heap.size w w3 := ext_step k2 (by omega) hb
  have p3 := hb.size
  replace hk0 := hk0.ext hb
  have bl0 := Nat.lt_of_lt_of_le bl0 hb.size
  clear hb
  have bx0_4 := hk0.at_ 4 _ rfl
  go_wp2_with fail
  refine (hP _).mono ?_
  rintro e w4 ⟨rfl, hb⟩
  have k4 : Below w.heap.size w w4 := ext_step k3 (by omega) hb
  have p4 := hb.size
  replace hk0 := hk0.ext hb
  clear bx0_4
  have bl0 := Nat.lt_of_lt_of_le bl0 hb.size
  clear hb
  have bx0_4 := hk0.at_ 4 _ rfl
  go_wp2_with fail
  have hxt := fun t : Ext w4 => t.cell bx0_4
  refine wp_region_ext_lit (by kernel_rfl) (by kernel_rfl) ?_
  repeat (go_big_quiet_step (first | (go_at_call_of 64 ((12 : Int)); exact ext_call (h12 _)) | (go_at_call_of 64 ((16 : Int)); exact ext_call (h16 _)) | (go_at_call 63; exact ext_call (hH _))))
  refine wpQuiet_nil ?_
  intro _ hw'
  obtain ⟨tq, hw''⟩ := hw'
  subst hw''
  have hb := tq.below
  generalize hW0 : tq.wd = w5 at *
  clear hW0 hxt
  have k5 : Below w.heap.size w w5 := ext_step k4 (by omega) hb
  have p5 := hb.size
  replace hk0 := hk0.ext hb
  clear bx0_4
  have bl0 := Nat.lt_of_lt_of_le bl0 hb.size
  clear hb
  go_wp2_with fail
  refine (hSP _).mono ?_
  rintro e w6 ⟨rfl, hb⟩
  have k6 : Below w.heap.size w w6 := ext_step k5 (by omega) hb
  have p6 := hb.size
  replace hk0 := hk0.ext hb
  have bl0 := Nat.lt_of_lt_of_le bl0 hb.size
  clear hb
  go_wp2_with fail
  refine (hK _).mono ?_
  rintro e w7 ⟨rfl, hb⟩
  have k7 : Below w.heap.size w w7 := ext_step k6 (by omega) hb
  have p7 := hb.size
  replace hk0 := hk0.ext hb
  have bl0 := Nat.lt_of_lt_of_le bl0 hb.size
  clear hb
  have bx0_4 := hk0.at_ 4 _ rfl
  go_wp2_with fail
  refine (hC2 _).mono ?_
  rintro e w8 ⟨rfl, hb⟩
  have k8 : Below w.heap.size w w8 := ext_step k7 (by omega) hb
  have p8 := hb.size
  replace hk0 := hk0.ext hb
  clear bx0_4
  have bl0 := Nat.lt_of_lt_of_le bl0 hb.size
  clear hb
  clear  hk0
  go_wp2_with fail
  refine (hW1 _).mono ?_
  rintro e w9 ⟨rfl, hb⟩
  have k9 : Below w.heap.size w w9 := ext_step k8 (by omega) hb
  have p9 := hb.size
  have bl0 := Nat.lt_of_lt_of_le bl0 hb.size
  clear hb
  go_wp2_with fail
  refine (hP1 _).mono ?_
  rintro e w10 ⟨rfl, hb⟩
  have k10 : Below w.heap.size w w10 := ext_step k9 (by omega) hb
  have p10 := hb.size
  have bl0 := Nat.lt_of_lt_of_le bl0 hb.size
  clear hb
  go_wp2_with fail
  refine (hW2 _).mono ?_
  rintro e w11 ⟨rfl, hb⟩
  have k11 : Below w.heap.size w w11 := ext_step k10 (by omega) hb
  have p11 := hb.size
  have bl0 := Nat.lt_of_lt_of_le bl0 hb.size
  clear hb
  go_wp2_with fail
  refine (hP2 _).mono ?_
  rintro e w12 ⟨rfl, hb⟩
  have k12 : Below w.heap.size w w12 := ext_step k11 (by omega) hb
  have p12 := hb.size
  have bl0 := Nat.lt_of_lt_of_le bl0 hb.size
  clear hb
  go_wp2_with fail
  refine (hR _).mono ?_
  rintro e w13 ⟨rfl, hb⟩
  have k13 : Below w.heap.size w w13 := ext_step k12 (by omega) hb
  have p13 := hb.size
  have bl0 := Nat.lt_of_lt_of_le bl0 hb.size
  clear hb
  go_wp2_with fail
  obtain ⟨w14, hW0⟩ : ∃ W, W = (w13.alloc (.cells #[.int .i64 p.dmac, .int .i64 p.smac, .int .i64 p.vlan, .int .i64 p.tos, .int .i64 p.id, .int .i64 p.ttl, .int .i64 p.sip, .int .i64 p.dip, .int .i64 p.seg_kind, .int .i64 p.seg_sport, .int .i64 p.seg_dport, .int .i64 p.seg_seq, .int .i64 p.seg_ack, .int .i64 p.seg_flags, .int .i64 p.seg_win, .string p.seg_body] 31)) := ⟨_, rfl⟩
  have hb : Below w13.heap.size w13 w14 := by rw [hW0]; go_grown
  have bl1 : w13.heap.size < w14.heap.size := by rw [hW0]; go_size
  have hk1 : Blk w14 (w13.heap.size) 31 [.int .i64 p.dmac, .int .i64 p.smac, .int .i64 p.vlan, .int .i64 p.tos, .int .i64 p.id, .int .i64 p.ttl, .int .i64 p.sip, .int .i64 p.dip, .int .i64 p.seg_kind, .int .i64 p.seg_sport, .int .i64 p.seg_dport, .int .i64 p.seg_seq, .int .i64 p.seg_ack, .int .i64 p.seg_flags, .int .i64 p.seg_win, .string p.seg_body] := by rw [hW0]; exact Blk.new _ _ _
  rw [← hW0]
  clear hW0
  have k14 := ext_step k13 (by omega) hb
  have p14 := hb.size
  have bl0 := Nat.lt_of_lt_of_le bl0 hb.size
  clear hb
  refine (hT _).mono ?_
  rintro e w15 ⟨rfl, hb⟩
  have k15 : Below w.heap.size w w15 := ext_step k14 (by omega) hb
  have p15 := hb.size
  replace hk1 := hk1.ext hb
  have bl0 := Nat.lt_of_lt_of_le bl0 hb.size
  have bl1 := Nat.lt_of_lt_of_le bl1 hb.size
  clear hb
  have bx1_0 := hk1.at_ 0 _ rfl
  have bx1_1 := hk1.at_ 1 _ rfl
  have bx1_2 := hk1.at_ 2 _ rfl
  have bx1_3 := hk1.at_ 3 _ rfl
  have bx1_4 := hk1.at_ 4 _ rfl
  have bx1_5 := hk1.at_ 5 _ rfl
  have bx1_6 := hk1.at_ 6 _ rfl
  have bx1_7 := hk1.at_ 7 _ rfl
  have bx1_8 := hk1.at_ 8 _ rfl
  have bx1_9 := hk1.at_ 9 _ rfl
  have bx1_10 := hk1.at_ 10 _ rfl
  have bx1_11 := hk1.at_ 11 _ rfl
  have bx1_12 := hk1.at_ 12 _ rfl
  have bx1_13 := hk1.at_ 13 _ rfl
  have bx1_14 := hk1.at_ 14 _ rfl
  have bx1_15 := hk1.at_ 15 _ rfl
  go_wp2_with fail
  refine (hB _).mono ?_
  rintro e w16 ⟨rfl, hb⟩
  have k16 : Below w.heap.size w w16 := ext_step k15 (by omega) hb
  have p16 := hb.size
  replace hk1 := hk1.ext hb
  clear bx1_0 bx1_1 bx1_2 bx1_3 bx1_4 bx1_5 bx1_6 bx1_7 bx1_8 bx1_9 bx1_10 bx1_11 bx1_12 bx1_13 bx1_14 bx1_15
  have bl0 := Nat.lt_of_lt_of_le bl0 hb.size
  have bl1 := Nat.lt_of_lt_of_le bl1 hb.size
  clear hb
  go_wp2_with fail
  refine bodyPost_ret (v := .tuple #[.string (imgS p), .bool true]) (by simp [results, Try.results16, go_sem]) rfl ?_
  exact ⟨rfl, k16⟩
set_option maxRecDepth 100000 in
set_option maxHeartbeats 4000000 in
theorem implFS_br0 (t : ByteArray) (w : World) {B B20 G H wx wy t1 t2 : ByteArray} {D S V T n a b si di pl x xx c : Int} (hE : ∀ u : World, Calls Try.prog 61 #[.string t] u fun e w' => e = .returned (.tuple #[.agg #[.int .i64 D, .int .i64 S, .int .i64 V, .int .i64 T, .string B], .bool true]) ∧ Below u.heap.size u w') (hN : ∀ u : World, Calls Try.prog 62 #[.string B, .int .i64 2] u fun e w' => e = .returned (.int .i64 n) ∧ Below u.heap.size u w') (hP : ∀ u : World, Calls Try.prog 53 #[.string t] u fun e w' => e = .returned (.tuple #[.int .i64 a, .int .i64 b]) ∧ Below u.heap.size u w') (h12 : ∀ u : World, Calls Try.prog 64 #[.string B, .int .i64 12] u fun e w' => e = .returned (.int .i64 si) ∧ Below u.heap.size u w') (h16 : ∀ u : World, Calls Try.prog 64 #[.string B, .int .i64 16] u fun e w' => e = .returned (.int .i64 di) ∧ Below u.heap.size u w') (hH : ∀ u : World, Calls Try.prog 63 #[.int .i64 si, .int .i64 di, .int .i64 17, .int .i64 (G.size : Int)] u fun e w' => e = .returned (.tuple #[.string H, .bool true]) ∧ Below u.heap.size u w') (hSP : ∀ u : World, Calls Try.prog 65 #[.int .i64 17] u fun e w' => e = .returned (.int .i64 pl) ∧ Below u.heap.size u w') (hK : ∀ u : World, Calls Try.prog 66 #[.string (H ++ G)] u fun e w' => e = .returned (.int .i64 x) ∧ Below u.heap.size u w') (hC2 : ∀ u : World, Calls Try.prog 66 #[.string B20] u fun e w' => e = .returned (.int .i64 xx) ∧ Below u.heap.size u w') (hW1 : ∀ u : World, Calls Try.prog 55 #[.int .i64 xx] u fun e w' => e = .returned (.string wx) ∧ Below u.heap.size u w') (hP1 : ∀ u : World, Calls Try.prog 54 #[.string t, .int .i64 a, .string wx] u fun e w' => e = .returned (.string t1) ∧ Below u.heap.size u w') (hW2 : ∀ u : World, Calls Try.prog 55 #[.int .i64 x] u fun e w' => e = .returned (.string wy) ∧ Below u.heap.size u w') (hP2 : ∀ u : World, Calls Try.prog 54 #[.string t1, .int .i64 b, .string wy] u fun e w' => e = .returned (.string t2) ∧ Below u.heap.size u w') (h20 : 20 ≤ n) (hnB : n ≤ (B.size : Int)) (hBz : B.size ≤ 400) (hB46 : 46 ≤ B.size) (hgg : B.extract 20 n.toNat = G) (hkk : byt B 9 = 17) (hplb : 6 ≤ pl ∧ pl ≤ 16) (hpl : pl + 2 ≤ (G.size : Int)) (zH : H.size = 12) (e_20 : B.extract 0 20 = B20) (hx0 : ¬ x = 0) (hR : ∀ u : World, Calls Try.prog 20 #[.string t2] u fun e w' => e = .returned (.tuple #[.agg #[.int .i64 0, .int .i64 0, .int .i64 0, .int .i64 0, .int .i64 0, .int .i64 0, .int .i64 0, .int .i64 0, .int .i64 0, .int .i64 0, .int .i64 0, .int .i64 0, .int .i64 0, .int .i64 0, .int .i64 0, .string ByteArray.empty], .int .i64 c]) ∧ Below u.heap.size u w') (hT : ∀ u : World, Calls Try.prog 14 #[.agg #[.int .i64 0, .int .i64 0, .int .i64 0, .int .i64 0, .int .i64 0, .int .i64 0, .int .i64 0, .int .i64 0, .int .i64 0, .int .i64 0, .int .i64 0, .int .i64 0, .int .i64 0, .int .i64 0, .int .i64 0, .string ByteArray.empty]] u fun e w' => e = .returned (.tuple #[.string ByteArray.empty, .bool false]) ∧ Below u.heap.size u w') (hc : ¬ c = 0) :
    Calls Try.prog 16 #[.string t] w fun e w' => e = .returned (.tuple #[.string ByteArray.empty, .bool false]) ∧ Below w.heap.size w w' := by
  have x9 := idxi (s := B) (i := 9) (k := 9) rfl (by omega)
  have kb := byt_bd B 9
  simp only [hkk] at x9 kb
  have hGz : G.size ≤ 400 := by rw [← hgg, ByteArray.size_extract]; omega
  have ewk : IntKind.i64.wrap 17 = 17 := IntWalk.i64_in _ ⟨by omega, by omega⟩
  have zHG : (H ++ G).size = 12 + G.size := by rw [ByteArray.size_append, zH]
  have hov : ¬ 9223372036854775807 < 12 + G.size := by omega
  go_enter Try.func16, Try.ntmps16
  go_wp2_with fail
  have k0 : Below w.heap.size w w := by go_grown
  have p0 := k0.size
  refine (hE _).mono ?_
  rintro e w1 ⟨rfl, hb⟩
  have k1 : Below w.heap.size w w1 := ext_step k0 (by omega) hb
  have p1 := hb.size
  clear hb
  go_wp2_with fail
  obtain ⟨w2, hW0⟩ : ∃ W, W = (w1.alloc (.cells #[.int .i64 D, .int .i64 S, .int .i64 V, .int .i64 T, .string B] 99)) := ⟨_, rfl⟩
  have hb : Below w1.heap.size w1 w2 := by rw [hW0]; go_grown
  have bl0 : w1.heap.size < w2.heap.size := by rw [hW0]; go_size
  have hk0 : Blk w2 (w1.heap.size) 99 [.int .i64 D, .int .i64 S, .int .i64 V, .int .i64 T, .string B] := by rw [hW0]; exact Blk.new _ _ _
  rw [← hW0]
  clear hW0
  have k2 := ext_step k1 (by omega) hb
  have p2 := hb.size
  clear hb
  refine (hN _).mono ?_
  rintro e w3 ⟨rfl, hb⟩
  have k3 : Below w.heap.size w w3 := ext_step k2 (by omega) hb
  have p3 := hb.size
  replace hk0 := hk0.ext hb
  have bl0 := Nat.lt_of_lt_of_le bl0 hb.size
  clear hb
  have bx0_4 := hk0.at_ 4 _ rfl
  go_wp2_with fail
  refine (hP _).mono ?_
  rintro e w4 ⟨rfl, hb⟩
  have k4 : Below w.heap.size w w4 := ext_step k3 (by omega) hb
  have p4 := hb.size
  replace hk0 := hk0.ext hb
  clear bx0_4
  have bl0 := Nat.lt_of_lt_of_le bl0 hb.size
  clear hb
  have bx0_4 := hk0.at_ 4 _ rfl
  go_wp2_with fail
  have hxt := fun t : Ext w4 => t.cell bx0_4
  refine wp_region_ext_lit (by kernel_rfl) (by kernel_rfl) ?_
  repeat (go_big_quiet_step (first | (go_at_call_of 64 ((12 : Int)); exact ext_call (h12 _)) | (go_at_call_of 64 ((16 : Int)); exact ext_call (h16 _)) | (go_at_call 63; exact ext_call (hH _))))
  refine wpQuiet_nil ?_
  intro _ hw'
  obtain ⟨tq, hw''⟩ := hw'
  subst hw''
  have hb := tq.below
  generalize hW0 : tq.wd = w5 at *
  clear hW0 hxt
  have k5 : Below w.heap.size w w5 := ext_step k4 (by omega) hb
  have p5 := hb.size
  replace hk0 := hk0.ext hb
  clear bx0_4
  have bl0 := Nat.lt_of_lt_of_le bl0 hb.size
  clear hb
  go_wp2_with fail
  refine (hSP _).mono ?_
  rintro e w6 ⟨rfl, hb⟩
  have k6 : Below w.heap.size w w6 := ext_step k5 (by omega) hb
  have p6 := hb.size
  replace hk0 := hk0.ext hb
  have bl0 := Nat.lt_of_lt_of_le bl0 hb.size
  clear hb
  go_wp2_with fail
  refine (hK _).mono ?_
  rintro e w7 ⟨rfl, hb⟩
  have k7 : Below w.heap.size w w7 := ext_step k6 (by omega) hb
  have p7 := hb.size
  replace hk0 := hk0.ext hb
  have bl0 := Nat.lt_of_lt_of_le bl0 hb.size
  clear hb
  have bx0_4 := hk0.at_ 4 _ rfl
  go_wp2_with fail
  refine (hC2 _).mono ?_
  rintro e w8 ⟨rfl, hb⟩
  have k8 : Below w.heap.size w w8 := ext_step k7 (by omega) hb
  have p8 := hb.size
  replace hk0 := hk0.ext hb
  clear bx0_4
  have bl0 := Nat.lt_of_lt_of_le bl0 hb.size
  clear hb
  clear  hk0
  go_wp2_with fail
  refine (hW1 _).mono ?_
  rintro e w9 ⟨rfl, hb⟩
  have k9 : Below w.heap.size w w9 := ext_step k8 (by omega) hb
  have p9 := hb.size
  have bl0 := Nat.lt_of_lt_of_le bl0 hb.size
  clear hb
  go_wp2_with fail
  refine (hP1 _).mono ?_
  rintro e w10 ⟨rfl, hb⟩
  have k10 : Below w.heap.size w w10 := ext_step k9 (by omega) hb
  have p10 := hb.size
  have bl0 := Nat.lt_of_lt_of_le bl0 hb.size
  clear hb
  go_wp2_with fail
  refine (hW2 _).mono ?_
  rintro e w11 ⟨rfl, hb⟩
  have k11 : Below w.heap.size w w11 := ext_step k10 (by omega) hb
  have p11 := hb.size
  have bl0 := Nat.lt_of_lt_of_le bl0 hb.size
  clear hb
  go_wp2_with fail
  refine (hP2 _).mono ?_
  rintro e w12 ⟨rfl, hb⟩
  have k12 : Below w.heap.size w w12 := ext_step k11 (by omega) hb
  have p12 := hb.size
  have bl0 := Nat.lt_of_lt_of_le bl0 hb.size
  clear hb
  go_wp2_with fail
  refine (hR _).mono ?_
  rintro e w13 ⟨rfl, hb⟩
  have k13 : Below w.heap.size w w13 := ext_step k12 (by omega) hb
  have p13 := hb.size
  have bl0 := Nat.lt_of_lt_of_le bl0 hb.size
  clear hb
  go_wp2_with fail
  obtain ⟨w14, hW0⟩ : ∃ W, W = (w13.alloc (.cells #[.int .i64 0, .int .i64 0, .int .i64 0, .int .i64 0, .int .i64 0, .int .i64 0, .int .i64 0, .int .i64 0, .int .i64 0, .int .i64 0, .int .i64 0, .int .i64 0, .int .i64 0, .int .i64 0, .int .i64 0, .string ByteArray.empty] 31)) := ⟨_, rfl⟩
  have hb : Below w13.heap.size w13 w14 := by rw [hW0]; go_grown
  have bl1 : w13.heap.size < w14.heap.size := by rw [hW0]; go_size
  have hk1 : Blk w14 (w13.heap.size) 31 [.int .i64 0, .int .i64 0, .int .i64 0, .int .i64 0, .int .i64 0, .int .i64 0, .int .i64 0, .int .i64 0, .int .i64 0, .int .i64 0, .int .i64 0, .int .i64 0, .int .i64 0, .int .i64 0, .int .i64 0, .string ByteArray.empty] := by rw [hW0]; exact Blk.new _ _ _
  rw [← hW0]
  clear hW0
  have k14 := ext_step k13 (by omega) hb
  have p14 := hb.size
  have bl0 := Nat.lt_of_lt_of_le bl0 hb.size
  clear hb
  refine (hT _).mono ?_
  rintro e w15 ⟨rfl, hb⟩
  have k15 : Below w.heap.size w w15 := ext_step k14 (by omega) hb
  have p15 := hb.size
  replace hk1 := hk1.ext hb
  have bl0 := Nat.lt_of_lt_of_le bl0 hb.size
  have bl1 := Nat.lt_of_lt_of_le bl1 hb.size
  clear hb
  clear  hk1
  go_wp2_with fail
  refine bodyPost_ret (v := .tuple #[.string ByteArray.empty, .bool false]) (by simp [results, Try.results16, go_sem]; rfl) rfl ?_
  exact ⟨rfl, k15⟩
set_option maxRecDepth 100000 in
set_option maxHeartbeats 4000000 in
theorem implFS_ctn (t : ByteArray) (w : World) {B B20 G H wx wy t1 t2 tm : ByteArray} {D S V T n a b kd si di pl x xx : Int} {p : Packet} (hE : ∀ u : World, Calls Try.prog 61 #[.string t] u fun e w' => e = .returned (.tuple #[.agg #[.int .i64 D, .int .i64 S, .int .i64 V, .int .i64 T, .string B], .bool true]) ∧ Below u.heap.size u w') (hN : ∀ u : World, Calls Try.prog 62 #[.string B, .int .i64 2] u fun e w' => e = .returned (.int .i64 n) ∧ Below u.heap.size u w') (hP : ∀ u : World, Calls Try.prog 53 #[.string t] u fun e w' => e = .returned (.tuple #[.int .i64 a, .int .i64 b]) ∧ Below u.heap.size u w') (h12 : ∀ u : World, Calls Try.prog 64 #[.string B, .int .i64 12] u fun e w' => e = .returned (.int .i64 si) ∧ Below u.heap.size u w') (h16 : ∀ u : World, Calls Try.prog 64 #[.string B, .int .i64 16] u fun e w' => e = .returned (.int .i64 di) ∧ Below u.heap.size u w') (hH : ∀ u : World, Calls Try.prog 63 #[.int .i64 si, .int .i64 di, .int .i64 kd, .int .i64 (G.size : Int)] u fun e w' => e = .returned (.tuple #[.string H, .bool true]) ∧ Below u.heap.size u w') (hSP : ∀ u : World, Calls Try.prog 65 #[.int .i64 kd] u fun e w' => e = .returned (.int .i64 pl) ∧ Below u.heap.size u w') (hK : ∀ u : World, Calls Try.prog 66 #[.string (H ++ G)] u fun e w' => e = .returned (.int .i64 x) ∧ Below u.heap.size u w') (hC2 : ∀ u : World, Calls Try.prog 66 #[.string B20] u fun e w' => e = .returned (.int .i64 xx) ∧ Below u.heap.size u w') (hW1 : ∀ u : World, Calls Try.prog 55 #[.int .i64 xx] u fun e w' => e = .returned (.string wx) ∧ Below u.heap.size u w') (hP1 : ∀ u : World, Calls Try.prog 54 #[.string t, .int .i64 a, .string wx] u fun e w' => e = .returned (.string t1) ∧ Below u.heap.size u w') (hW2 : ∀ u : World, Calls Try.prog 55 #[.int .i64 x] u fun e w' => e = .returned (.string wy) ∧ Below u.heap.size u w') (hP2 : ∀ u : World, Calls Try.prog 54 #[.string t1, .int .i64 b, .string wy] u fun e w' => e = .returned (.string t2) ∧ Below u.heap.size u w') (h20 : 20 ≤ n) (hnB : n ≤ (B.size : Int)) (hBz : B.size ≤ 400) (hB46 : 46 ≤ B.size) (hgg : B.extract 20 n.toNat = G) (hkk : byt B 9 = kd) (hplb : 6 ≤ pl ∧ pl ≤ 16) (hpl : pl + 2 ≤ (G.size : Int)) (zH : H.size = 12) (e_20 : B.extract 0 20 = B20) (h17 : ¬ kd = 17) (hR : ∀ u : World, Calls Try.prog 20 #[.string t2] u fun e w' => e = .returned (.tuple #[.agg #[.int .i64 p.dmac, .int .i64 p.smac, .int .i64 p.vlan, .int .i64 p.tos, .int .i64 p.id, .int .i64 p.ttl, .int .i64 p.sip, .int .i64 p.dip, .int .i64 p.seg_kind, .int .i64 p.seg_sport, .int .i64 p.seg_dport, .int .i64 p.seg_seq, .int .i64 p.seg_ack, .int .i64 p.seg_flags, .int .i64 p.seg_win, .string p.seg_body], .int .i64 0]) ∧ Below u.heap.size u w') (hT : ∀ u : World, Calls Try.prog 14 #[.agg #[.int .i64 p.dmac, .int .i64 p.smac, .int .i64 p.vlan, .int .i64 p.tos, .int .i64 p.id, .int .i64 p.ttl, .int .i64 p.sip, .int .i64 p.dip, .int .i64 p.seg_kind, .int .i64 p.seg_sport, .int .i64 p.seg_dport, .int .i64 p.seg_seq, .int .i64 p.seg_ack, .int .i64 p.seg_flags, .int .i64 p.seg_win, .string p.seg_body]] u fun e w' => e = .returned (.tuple #[.string tm, .bool true]) ∧ Below u.heap.size u w') (he : (tm.toList == t.toList) = false) :
    Calls Try.prog 16 #[.string t] w fun e w' => e = .returned (.tuple #[.string ByteArray.empty, .bool false]) ∧ Below w.heap.size w w' := by
  have x9 := idxi (s := B) (i := 9) (k := 9) rfl (by omega)
  have kb := byt_bd B 9
  simp only [hkk] at x9 kb
  have hGz : G.size ≤ 400 := by rw [← hgg, ByteArray.size_extract]; omega
  have ewk : IntKind.i64.wrap kd = kd := IntWalk.i64_in _ ⟨by omega, by omega⟩
  have zHG : (H ++ G).size = 12 + G.size := by rw [ByteArray.size_append, zH]
  have hov : ¬ 9223372036854775807 < 12 + G.size := by omega
  go_enter Try.func16, Try.ntmps16
  go_wp2_with fail
  have k0 : Below w.heap.size w w := by go_grown
  have p0 := k0.size
  refine (hE _).mono ?_
  rintro e w1 ⟨rfl, hb⟩
  have k1 : Below w.heap.size w w1 := ext_step k0 (by omega) hb
  have p1 := hb.size
  clear hb
  go_wp2_with fail
  obtain ⟨w2, hW0⟩ : ∃ W, W = (w1.alloc (.cells #[.int .i64 D, .int .i64 S, .int .i64 V, .int .i64 T, .string B] 99)) := ⟨_, rfl⟩
  have hb : Below w1.heap.size w1 w2 := by rw [hW0]; go_grown
  have bl0 : w1.heap.size < w2.heap.size := by rw [hW0]; go_size
  have hk0 : Blk w2 (w1.heap.size) 99 [.int .i64 D, .int .i64 S, .int .i64 V, .int .i64 T, .string B] := by rw [hW0]; exact Blk.new _ _ _
  rw [← hW0]
  clear hW0
  have k2 := ext_step k1 (by omega) hb
  have p2 := hb.size
  clear hb
  refine (hN _).mono ?_
  rintro e w3 ⟨rfl, hb⟩
  have k3 : Below w.heap.size w w3 := ext_step k2 (by omega) hb
  have p3 := hb.size
  replace hk0 := hk0.ext hb
  have bl0 := Nat.lt_of_lt_of_le bl0 hb.size
  clear hb
  have bx0_4 := hk0.at_ 4 _ rfl
  go_wp2_with fail
  refine (hP _).mono ?_
  rintro e w4 ⟨rfl, hb⟩
  have k4 : Below w.heap.size w w4 := ext_step k3 (by omega) hb
  have p4 := hb.size
  replace hk0 := hk0.ext hb
  clear bx0_4
  have bl0 := Nat.lt_of_lt_of_le bl0 hb.size
  clear hb
  have bx0_4 := hk0.at_ 4 _ rfl
  go_wp2_with fail
  have hxt := fun t : Ext w4 => t.cell bx0_4
  refine wp_region_ext_lit (by kernel_rfl) (by kernel_rfl) ?_
  repeat (go_big_quiet_step (first | (go_at_call_of 64 ((12 : Int)); exact ext_call (h12 _)) | (go_at_call_of 64 ((16 : Int)); exact ext_call (h16 _)) | (go_at_call 63; exact ext_call (hH _))))
  refine wpQuiet_nil ?_
  intro _ hw'
  obtain ⟨tq, hw''⟩ := hw'
  subst hw''
  have hb := tq.below
  generalize hW0 : tq.wd = w5 at *
  clear hW0 hxt
  have k5 : Below w.heap.size w w5 := ext_step k4 (by omega) hb
  have p5 := hb.size
  replace hk0 := hk0.ext hb
  clear bx0_4
  have bl0 := Nat.lt_of_lt_of_le bl0 hb.size
  clear hb
  go_wp2_with fail
  refine (hSP _).mono ?_
  rintro e w6 ⟨rfl, hb⟩
  have k6 : Below w.heap.size w w6 := ext_step k5 (by omega) hb
  have p6 := hb.size
  replace hk0 := hk0.ext hb
  have bl0 := Nat.lt_of_lt_of_le bl0 hb.size
  clear hb
  go_wp2_with fail
  refine (hK _).mono ?_
  rintro e w7 ⟨rfl, hb⟩
  have k7 : Below w.heap.size w w7 := ext_step k6 (by omega) hb
  have p7 := hb.size
  replace hk0 := hk0.ext hb
  have bl0 := Nat.lt_of_lt_of_le bl0 hb.size
  clear hb
  have bx0_4 := hk0.at_ 4 _ rfl
  go_wp2_with fail
  refine (hC2 _).mono ?_
  rintro e w8 ⟨rfl, hb⟩
  have k8 : Below w.heap.size w w8 := ext_step k7 (by omega) hb
  have p8 := hb.size
  replace hk0 := hk0.ext hb
  clear bx0_4
  have bl0 := Nat.lt_of_lt_of_le bl0 hb.size
  clear hb
  clear  hk0
  go_wp2_with fail
  refine (hW1 _).mono ?_
  rintro e w9 ⟨rfl, hb⟩
  have k9 : Below w.heap.size w w9 := ext_step k8 (by omega) hb
  have p9 := hb.size
  have bl0 := Nat.lt_of_lt_of_le bl0 hb.size
  clear hb
  go_wp2_with fail
  refine (hP1 _).mono ?_
  rintro e w10 ⟨rfl, hb⟩
  have k10 : Below w.heap.size w w10 := ext_step k9 (by omega) hb
  have p10 := hb.size
  have bl0 := Nat.lt_of_lt_of_le bl0 hb.size
  clear hb
  go_wp2_with fail
  refine (hW2 _).mono ?_
  rintro e w11 ⟨rfl, hb⟩
  have k11 : Below w.heap.size w w11 := ext_step k10 (by omega) hb
  have p11 := hb.size
  have bl0 := Nat.lt_of_lt_of_le bl0 hb.size
  clear hb
  go_wp2_with fail
  refine (hP2 _).mono ?_
  rintro e w12 ⟨rfl, hb⟩
  have k12 : Below w.heap.size w w12 := ext_step k11 (by omega) hb
  have p12 := hb.size
  have bl0 := Nat.lt_of_lt_of_le bl0 hb.size
  clear hb
  go_wp2_with fail
  refine (hR _).mono ?_
  rintro e w13 ⟨rfl, hb⟩
  have k13 : Below w.heap.size w w13 := ext_step k12 (by omega) hb
  have p13 := hb.size
  have bl0 := Nat.lt_of_lt_of_le bl0 hb.size
  clear hb
  go_wp2_with fail
  obtain ⟨w14, hW0⟩ : ∃ W, W = (w13.alloc (.cells #[.int .i64 p.dmac, .int .i64 p.smac, .int .i64 p.vlan, .int .i64 p.tos, .int .i64 p.id, .int .i64 p.ttl, .int .i64 p.sip, .int .i64 p.dip, .int .i64 p.seg_kind, .int .i64 p.seg_sport, .int .i64 p.seg_dport, .int .i64 p.seg_seq, .int .i64 p.seg_ack, .int .i64 p.seg_flags, .int .i64 p.seg_win, .string p.seg_body] 31)) := ⟨_, rfl⟩
  have hb : Below w13.heap.size w13 w14 := by rw [hW0]; go_grown
  have bl1 : w13.heap.size < w14.heap.size := by rw [hW0]; go_size
  have hk1 : Blk w14 (w13.heap.size) 31 [.int .i64 p.dmac, .int .i64 p.smac, .int .i64 p.vlan, .int .i64 p.tos, .int .i64 p.id, .int .i64 p.ttl, .int .i64 p.sip, .int .i64 p.dip, .int .i64 p.seg_kind, .int .i64 p.seg_sport, .int .i64 p.seg_dport, .int .i64 p.seg_seq, .int .i64 p.seg_ack, .int .i64 p.seg_flags, .int .i64 p.seg_win, .string p.seg_body] := by rw [hW0]; exact Blk.new _ _ _
  rw [← hW0]
  clear hW0
  have k14 := ext_step k13 (by omega) hb
  have p14 := hb.size
  have bl0 := Nat.lt_of_lt_of_le bl0 hb.size
  clear hb
  refine (hT _).mono ?_
  rintro e w15 ⟨rfl, hb⟩
  have k15 : Below w.heap.size w w15 := ext_step k14 (by omega) hb
  have p15 := hb.size
  replace hk1 := hk1.ext hb
  have bl0 := Nat.lt_of_lt_of_le bl0 hb.size
  have bl1 := Nat.lt_of_lt_of_le bl1 hb.size
  clear hb
  clear  hk1
  go_wp2_with fail
  refine bodyPost_ret (v := .tuple #[.string ByteArray.empty, .bool false]) (by simp [results, Try.results16, go_sem]; rfl) rfl ?_
  exact ⟨rfl, k15⟩
set_option maxRecDepth 100000 in
set_option maxHeartbeats 4000000 in
theorem implFS_cok (t : ByteArray) (w : World) {B B20 G H wx wy t1 t2 tm : ByteArray} {D S V T n a b kd si di pl x xx : Int} {p : Packet} (hE : ∀ u : World, Calls Try.prog 61 #[.string t] u fun e w' => e = .returned (.tuple #[.agg #[.int .i64 D, .int .i64 S, .int .i64 V, .int .i64 T, .string B], .bool true]) ∧ Below u.heap.size u w') (hN : ∀ u : World, Calls Try.prog 62 #[.string B, .int .i64 2] u fun e w' => e = .returned (.int .i64 n) ∧ Below u.heap.size u w') (hP : ∀ u : World, Calls Try.prog 53 #[.string t] u fun e w' => e = .returned (.tuple #[.int .i64 a, .int .i64 b]) ∧ Below u.heap.size u w') (h12 : ∀ u : World, Calls Try.prog 64 #[.string B, .int .i64 12] u fun e w' => e = .returned (.int .i64 si) ∧ Below u.heap.size u w') (h16 : ∀ u : World, Calls Try.prog 64 #[.string B, .int .i64 16] u fun e w' => e = .returned (.int .i64 di) ∧ Below u.heap.size u w') (hH : ∀ u : World, Calls Try.prog 63 #[.int .i64 si, .int .i64 di, .int .i64 kd, .int .i64 (G.size : Int)] u fun e w' => e = .returned (.tuple #[.string H, .bool true]) ∧ Below u.heap.size u w') (hSP : ∀ u : World, Calls Try.prog 65 #[.int .i64 kd] u fun e w' => e = .returned (.int .i64 pl) ∧ Below u.heap.size u w') (hK : ∀ u : World, Calls Try.prog 66 #[.string (H ++ G)] u fun e w' => e = .returned (.int .i64 x) ∧ Below u.heap.size u w') (hC2 : ∀ u : World, Calls Try.prog 66 #[.string B20] u fun e w' => e = .returned (.int .i64 xx) ∧ Below u.heap.size u w') (hW1 : ∀ u : World, Calls Try.prog 55 #[.int .i64 xx] u fun e w' => e = .returned (.string wx) ∧ Below u.heap.size u w') (hP1 : ∀ u : World, Calls Try.prog 54 #[.string t, .int .i64 a, .string wx] u fun e w' => e = .returned (.string t1) ∧ Below u.heap.size u w') (hW2 : ∀ u : World, Calls Try.prog 55 #[.int .i64 x] u fun e w' => e = .returned (.string wy) ∧ Below u.heap.size u w') (hP2 : ∀ u : World, Calls Try.prog 54 #[.string t1, .int .i64 b, .string wy] u fun e w' => e = .returned (.string t2) ∧ Below u.heap.size u w') (h20 : 20 ≤ n) (hnB : n ≤ (B.size : Int)) (hBz : B.size ≤ 400) (hB46 : 46 ≤ B.size) (hgg : B.extract 20 n.toNat = G) (hkk : byt B 9 = kd) (hplb : 6 ≤ pl ∧ pl ≤ 16) (hpl : pl + 2 ≤ (G.size : Int)) (zH : H.size = 12) (e_20 : B.extract 0 20 = B20) (h17 : ¬ kd = 17) (hR : ∀ u : World, Calls Try.prog 20 #[.string t2] u fun e w' => e = .returned (.tuple #[.agg #[.int .i64 p.dmac, .int .i64 p.smac, .int .i64 p.vlan, .int .i64 p.tos, .int .i64 p.id, .int .i64 p.ttl, .int .i64 p.sip, .int .i64 p.dip, .int .i64 p.seg_kind, .int .i64 p.seg_sport, .int .i64 p.seg_dport, .int .i64 p.seg_seq, .int .i64 p.seg_ack, .int .i64 p.seg_flags, .int .i64 p.seg_win, .string p.seg_body], .int .i64 0]) ∧ Below u.heap.size u w') (hT : ∀ u : World, Calls Try.prog 14 #[.agg #[.int .i64 p.dmac, .int .i64 p.smac, .int .i64 p.vlan, .int .i64 p.tos, .int .i64 p.id, .int .i64 p.ttl, .int .i64 p.sip, .int .i64 p.dip, .int .i64 p.seg_kind, .int .i64 p.seg_sport, .int .i64 p.seg_dport, .int .i64 p.seg_seq, .int .i64 p.seg_ack, .int .i64 p.seg_flags, .int .i64 p.seg_win, .string p.seg_body]] u fun e w' => e = .returned (.tuple #[.string tm, .bool true]) ∧ Below u.heap.size u w') (hB : ∀ u : World, Calls Try.prog 19 #[.agg #[.int .i64 p.dmac, .int .i64 p.smac, .int .i64 p.vlan, .int .i64 p.tos, .int .i64 p.id, .int .i64 p.ttl, .int .i64 p.sip, .int .i64 p.dip, .int .i64 p.seg_kind, .int .i64 p.seg_sport, .int .i64 p.seg_dport, .int .i64 p.seg_seq, .int .i64 p.seg_ack, .int .i64 p.seg_flags, .int .i64 p.seg_win, .string p.seg_body]] u fun e w' => e = .returned (.tuple #[.string (imgS p), .bool true]) ∧ Below u.heap.size u w') (he : (tm.toList == t.toList) = true) :
    Calls Try.prog 16 #[.string t] w fun e w' => e = .returned (.tuple #[.string (imgS p), .bool true]) ∧ Below w.heap.size w w' := by
  have x9 := idxi (s := B) (i := 9) (k := 9) rfl (by omega)
  have kb := byt_bd B 9
  simp only [hkk] at x9 kb
  have hGz : G.size ≤ 400 := by rw [← hgg, ByteArray.size_extract]; omega
  have ewk : IntKind.i64.wrap kd = kd := IntWalk.i64_in _ ⟨by omega, by omega⟩
  have zHG : (H ++ G).size = 12 + G.size := by rw [ByteArray.size_append, zH]
  have hov : ¬ 9223372036854775807 < 12 + G.size := by omega
  go_enter Try.func16, Try.ntmps16
  go_wp2_with fail
  have k0 : Below w.heap.size w w := by go_grown
  have p0 := k0.size
  refine (hE _).mono ?_
  rintro e w1 ⟨rfl, hb⟩
  have k1 : Below w.heap.size w w1 := ext_step k0 (by omega) hb
  have p1 := hb.size
  clear hb
  go_wp2_with fail
  obtain ⟨w2, hW0⟩ : ∃ W, W = (w1.alloc (.cells #[.int .i64 D, .int .i64 S, .int .i64 V, .int .i64 T, .string B] 99)) := ⟨_, rfl⟩
  have hb : Below w1.heap.size w1 w2 := by rw [hW0]; go_grown
  have bl0 : w1.heap.size < w2.heap.size := by rw [hW0]; go_size
  have hk0 : Blk w2 (w1.heap.size) 99 [.int .i64 D, .int .i64 S, .int .i64 V, .int .i64 T, .string B] := by rw [hW0]; exact Blk.new _ _ _
  rw [← hW0]
  clear hW0
  have k2 := ext_step k1 (by omega) hb
  have p2 := hb.size
  clear hb
  refine (hN _).mono ?_
  rintro e w3 ⟨rfl, hb⟩
  have k3 : Below w.heap.size w w3 := ext_step k2 (by omega) hb
  have p3 := hb.size
  replace hk0 := hk0.ext hb
  have bl0 := Nat.lt_of_lt_of_le bl0 hb.size
  clear hb
  have bx0_4 := hk0.at_ 4 _ rfl
  go_wp2_with fail
  refine (hP _).mono ?_
  rintro e w4 ⟨rfl, hb⟩
  have k4 : Below w.heap.size w w4 := ext_step k3 (by omega) hb
  have p4 := hb.size
  replace hk0 := hk0.ext hb
  clear bx0_4
  have bl0 := Nat.lt_of_lt_of_le bl0 hb.size
  clear hb
  have bx0_4 := hk0.at_ 4 _ rfl
  go_wp2_with fail
  have hxt := fun t : Ext w4 => t.cell bx0_4
  refine wp_region_ext_lit (by kernel_rfl) (by kernel_rfl) ?_
  repeat (go_big_quiet_step (first | (go_at_call_of 64 ((12 : Int)); exact ext_call (h12 _)) | (go_at_call_of 64 ((16 : Int)); exact ext_call (h16 _)) | (go_at_call 63; exact ext_call (hH _))))
  refine wpQuiet_nil ?_
  intro _ hw'
  obtain ⟨tq, hw''⟩ := hw'
  subst hw''
  have hb := tq.below
  generalize hW0 : tq.wd = w5 at *
  clear hW0 hxt
  have k5 : Below w.heap.size w w5 := ext_step k4 (by omega) hb
  have p5 := hb.size
  replace hk0 := hk0.ext hb
  clear bx0_4
  have bl0 := Nat.lt_of_lt_of_le bl0 hb.size
  clear hb
  go_wp2_with fail
  refine (hSP _).mono ?_
  rintro e w6 ⟨rfl, hb⟩
  have k6 : Below w.heap.size w w6 := ext_step k5 (by omega) hb
  have p6 := hb.size
  replace hk0 := hk0.ext hb
  have bl0 := Nat.lt_of_lt_of_le bl0 hb.size
  clear hb
  go_wp2_with fail
  refine (hK _).mono ?_
  rintro e w7 ⟨rfl, hb⟩
  have k7 : Below w.heap.size w w7 := ext_step k6 (by omega) hb
  have p7 := hb.size
  replace hk0 := hk0.ext hb
  have bl0 := Nat.lt_of_lt_of_le bl0 hb.size
  clear hb
  have bx0_4 := hk0.at_ 4 _ rfl
  go_wp2_with fail
  refine (hC2 _).mono ?_
  rintro e w8 ⟨rfl, hb⟩
  have k8 : Below w.heap.size w w8 := ext_step k7 (by omega) hb
  have p8 := hb.size
  replace hk0 := hk0.ext hb
  clear bx0_4
  have bl0 := Nat.lt_of_lt_of_le bl0 hb.size
  clear hb
  clear  hk0
  go_wp2_with fail
  refine (hW1 _).mono ?_
  rintro e w9 ⟨rfl, hb⟩
  have k9 : Below w.heap.size w w9 := ext_step k8 (by omega) hb
  have p9 := hb.size
  have bl0 := Nat.lt_of_lt_of_le bl0 hb.size
  clear hb
  go_wp2_with fail
  refine (hP1 _).mono ?_
  rintro e w10 ⟨rfl, hb⟩
  have k10 : Below w.heap.size w w10 := ext_step k9 (by omega) hb
  have p10 := hb.size
  have bl0 := Nat.lt_of_lt_of_le bl0 hb.size
  clear hb
  go_wp2_with fail
  refine (hW2 _).mono ?_
  rintro e w11 ⟨rfl, hb⟩
  have k11 : Below w.heap.size w w11 := ext_step k10 (by omega) hb
  have p11 := hb.size
  have bl0 := Nat.lt_of_lt_of_le bl0 hb.size
  clear hb
  go_wp2_with fail
  refine (hP2 _).mono ?_
  rintro e w12 ⟨rfl, hb⟩
  have k12 : Below w.heap.size w w12 := ext_step k11 (by omega) hb
  have p12 := hb.size
  have bl0 := Nat.lt_of_lt_of_le bl0 hb.size
  clear hb
  go_wp2_with fail
  refine (hR _).mono ?_
  rintro e w13 ⟨rfl, hb⟩
  have k13 : Below w.heap.size w w13 := ext_step k12 (by omega) hb
  have p13 := hb.size
  have bl0 := Nat.lt_of_lt_of_le bl0 hb.size
  clear hb
  go_wp2_with fail
  obtain ⟨w14, hW0⟩ : ∃ W, W = (w13.alloc (.cells #[.int .i64 p.dmac, .int .i64 p.smac, .int .i64 p.vlan, .int .i64 p.tos, .int .i64 p.id, .int .i64 p.ttl, .int .i64 p.sip, .int .i64 p.dip, .int .i64 p.seg_kind, .int .i64 p.seg_sport, .int .i64 p.seg_dport, .int .i64 p.seg_seq, .int .i64 p.seg_ack, .int .i64 p.seg_flags, .int .i64 p.seg_win, .string p.seg_body] 31)) := ⟨_, rfl⟩
  have hb : Below w13.heap.size w13 w14 := by rw [hW0]; go_grown
  have bl1 : w13.heap.size < w14.heap.size := by rw [hW0]; go_size
  have hk1 : Blk w14 (w13.heap.size) 31 [.int .i64 p.dmac, .int .i64 p.smac, .int .i64 p.vlan, .int .i64 p.tos, .int .i64 p.id, .int .i64 p.ttl, .int .i64 p.sip, .int .i64 p.dip, .int .i64 p.seg_kind, .int .i64 p.seg_sport, .int .i64 p.seg_dport, .int .i64 p.seg_seq, .int .i64 p.seg_ack, .int .i64 p.seg_flags, .int .i64 p.seg_win, .string p.seg_body] := by rw [hW0]; exact Blk.new _ _ _
  rw [← hW0]
  clear hW0
  have k14 := ext_step k13 (by omega) hb
  have p14 := hb.size
  have bl0 := Nat.lt_of_lt_of_le bl0 hb.size
  clear hb
  refine (hT _).mono ?_
  rintro e w15 ⟨rfl, hb⟩
  have k15 : Below w.heap.size w w15 := ext_step k14 (by omega) hb
  have p15 := hb.size
  replace hk1 := hk1.ext hb
  have bl0 := Nat.lt_of_lt_of_le bl0 hb.size
  have bl1 := Nat.lt_of_lt_of_le bl1 hb.size
  clear hb
  have bx1_0 := hk1.at_ 0 _ rfl
  have bx1_1 := hk1.at_ 1 _ rfl
  have bx1_2 := hk1.at_ 2 _ rfl
  have bx1_3 := hk1.at_ 3 _ rfl
  have bx1_4 := hk1.at_ 4 _ rfl
  have bx1_5 := hk1.at_ 5 _ rfl
  have bx1_6 := hk1.at_ 6 _ rfl
  have bx1_7 := hk1.at_ 7 _ rfl
  have bx1_8 := hk1.at_ 8 _ rfl
  have bx1_9 := hk1.at_ 9 _ rfl
  have bx1_10 := hk1.at_ 10 _ rfl
  have bx1_11 := hk1.at_ 11 _ rfl
  have bx1_12 := hk1.at_ 12 _ rfl
  have bx1_13 := hk1.at_ 13 _ rfl
  have bx1_14 := hk1.at_ 14 _ rfl
  have bx1_15 := hk1.at_ 15 _ rfl
  go_wp2_with fail
  refine (hB _).mono ?_
  rintro e w16 ⟨rfl, hb⟩
  have k16 : Below w.heap.size w w16 := ext_step k15 (by omega) hb
  have p16 := hb.size
  replace hk1 := hk1.ext hb
  clear bx1_0 bx1_1 bx1_2 bx1_3 bx1_4 bx1_5 bx1_6 bx1_7 bx1_8 bx1_9 bx1_10 bx1_11 bx1_12 bx1_13 bx1_14 bx1_15
  have bl0 := Nat.lt_of_lt_of_le bl0 hb.size
  have bl1 := Nat.lt_of_lt_of_le bl1 hb.size
  clear hb
  go_wp2_with fail
  refine bodyPost_ret (v := .tuple #[.string (imgS p), .bool true]) (by simp [results, Try.results16, go_sem]) rfl ?_
  exact ⟨rfl, k16⟩
set_option maxRecDepth 100000 in
set_option maxHeartbeats 4000000 in
theorem implFS_cr0 (t : ByteArray) (w : World) {B B20 G H wx wy t1 t2 : ByteArray} {D S V T n a b kd si di pl x xx c : Int} (hE : ∀ u : World, Calls Try.prog 61 #[.string t] u fun e w' => e = .returned (.tuple #[.agg #[.int .i64 D, .int .i64 S, .int .i64 V, .int .i64 T, .string B], .bool true]) ∧ Below u.heap.size u w') (hN : ∀ u : World, Calls Try.prog 62 #[.string B, .int .i64 2] u fun e w' => e = .returned (.int .i64 n) ∧ Below u.heap.size u w') (hP : ∀ u : World, Calls Try.prog 53 #[.string t] u fun e w' => e = .returned (.tuple #[.int .i64 a, .int .i64 b]) ∧ Below u.heap.size u w') (h12 : ∀ u : World, Calls Try.prog 64 #[.string B, .int .i64 12] u fun e w' => e = .returned (.int .i64 si) ∧ Below u.heap.size u w') (h16 : ∀ u : World, Calls Try.prog 64 #[.string B, .int .i64 16] u fun e w' => e = .returned (.int .i64 di) ∧ Below u.heap.size u w') (hH : ∀ u : World, Calls Try.prog 63 #[.int .i64 si, .int .i64 di, .int .i64 kd, .int .i64 (G.size : Int)] u fun e w' => e = .returned (.tuple #[.string H, .bool true]) ∧ Below u.heap.size u w') (hSP : ∀ u : World, Calls Try.prog 65 #[.int .i64 kd] u fun e w' => e = .returned (.int .i64 pl) ∧ Below u.heap.size u w') (hK : ∀ u : World, Calls Try.prog 66 #[.string (H ++ G)] u fun e w' => e = .returned (.int .i64 x) ∧ Below u.heap.size u w') (hC2 : ∀ u : World, Calls Try.prog 66 #[.string B20] u fun e w' => e = .returned (.int .i64 xx) ∧ Below u.heap.size u w') (hW1 : ∀ u : World, Calls Try.prog 55 #[.int .i64 xx] u fun e w' => e = .returned (.string wx) ∧ Below u.heap.size u w') (hP1 : ∀ u : World, Calls Try.prog 54 #[.string t, .int .i64 a, .string wx] u fun e w' => e = .returned (.string t1) ∧ Below u.heap.size u w') (hW2 : ∀ u : World, Calls Try.prog 55 #[.int .i64 x] u fun e w' => e = .returned (.string wy) ∧ Below u.heap.size u w') (hP2 : ∀ u : World, Calls Try.prog 54 #[.string t1, .int .i64 b, .string wy] u fun e w' => e = .returned (.string t2) ∧ Below u.heap.size u w') (h20 : 20 ≤ n) (hnB : n ≤ (B.size : Int)) (hBz : B.size ≤ 400) (hB46 : 46 ≤ B.size) (hgg : B.extract 20 n.toNat = G) (hkk : byt B 9 = kd) (hplb : 6 ≤ pl ∧ pl ≤ 16) (hpl : pl + 2 ≤ (G.size : Int)) (zH : H.size = 12) (e_20 : B.extract 0 20 = B20) (h17 : ¬ kd = 17) (hR : ∀ u : World, Calls Try.prog 20 #[.string t2] u fun e w' => e = .returned (.tuple #[.agg #[.int .i64 0, .int .i64 0, .int .i64 0, .int .i64 0, .int .i64 0, .int .i64 0, .int .i64 0, .int .i64 0, .int .i64 0, .int .i64 0, .int .i64 0, .int .i64 0, .int .i64 0, .int .i64 0, .int .i64 0, .string ByteArray.empty], .int .i64 c]) ∧ Below u.heap.size u w') (hT : ∀ u : World, Calls Try.prog 14 #[.agg #[.int .i64 0, .int .i64 0, .int .i64 0, .int .i64 0, .int .i64 0, .int .i64 0, .int .i64 0, .int .i64 0, .int .i64 0, .int .i64 0, .int .i64 0, .int .i64 0, .int .i64 0, .int .i64 0, .int .i64 0, .string ByteArray.empty]] u fun e w' => e = .returned (.tuple #[.string ByteArray.empty, .bool false]) ∧ Below u.heap.size u w') (hc : ¬ c = 0) :
    Calls Try.prog 16 #[.string t] w fun e w' => e = .returned (.tuple #[.string ByteArray.empty, .bool false]) ∧ Below w.heap.size w w' := by
  have x9 := idxi (s := B) (i := 9) (k := 9) rfl (by omega)
  have kb := byt_bd B 9
  simp only [hkk] at x9 kb
  have hGz : G.size ≤ 400 := by rw [← hgg, ByteArray.size_extract]; omega
  have ewk : IntKind.i64.wrap kd = kd := IntWalk.i64_in _ ⟨by omega, by omega⟩
  have zHG : (H ++ G).size = 12 + G.size := by rw [ByteArray.size_append, zH]
  have hov : ¬ 9223372036854775807 < 12 + G.size := by omega
  go_enter Try.func16, Try.ntmps16
  go_wp2_with fail
  have k0 : Below w.heap.size w w := by go_grown
  have p0 := k0.size
  refine (hE _).mono ?_
  rintro e w1 ⟨rfl, hb⟩
  have k1 : Below w.heap.size w w1 := ext_step k0 (by omega) hb
  have p1 := hb.size
  clear hb
  go_wp2_with fail
  obtain ⟨w2, hW0⟩ : ∃ W, W = (w1.alloc (.cells #[.int .i64 D, .int .i64 S, .int .i64 V, .int .i64 T, .string B] 99)) := ⟨_, rfl⟩
  have hb : Below w1.heap.size w1 w2 := by rw [hW0]; go_grown
  have bl0 : w1.heap.size < w2.heap.size := by rw [hW0]; go_size
  have hk0 : Blk w2 (w1.heap.size) 99 [.int .i64 D, .int .i64 S, .int .i64 V, .int .i64 T, .string B] := by rw [hW0]; exact Blk.new _ _ _
  rw [← hW0]
  clear hW0
  have k2 := ext_step k1 (by omega) hb
  have p2 := hb.size
  clear hb
  refine (hN _).mono ?_
  rintro e w3 ⟨rfl, hb⟩
  have k3 : Below w.heap.size w w3 := ext_step k2 (by omega) hb
  have p3 := hb.size
  replace hk0 := hk0.ext hb
  have bl0 := Nat.lt_of_lt_of_le bl0 hb.size
  clear hb
  have bx0_4 := hk0.at_ 4 _ rfl
  go_wp2_with fail
  refine (hP _).mono ?_
  rintro e w4 ⟨rfl, hb⟩
  have k4 : Below w.heap.size w w4 := ext_step k3 (by omega) hb
  have p4 := hb.size
  replace hk0 := hk0.ext hb
  clear bx0_4
  have bl0 := Nat.lt_of_lt_of_le bl0 hb.size
  clear hb
  have bx0_4 := hk0.at_ 4 _ rfl
  go_wp2_with fail
  have hxt := fun t : Ext w4 => t.cell bx0_4
  refine wp_region_ext_lit (by kernel_rfl) (by kernel_rfl) ?_
  repeat (go_big_quiet_step (first | (go_at_call_of 64 ((12 : Int)); exact ext_call (h12 _)) | (go_at_call_of 64 ((16 : Int)); exact ext_call (h16 _)) | (go_at_call 63; exact ext_call (hH _))))
  refine wpQuiet_nil ?_
  intro _ hw'
  obtain ⟨tq, hw''⟩ := hw'
  subst hw''
  have hb := tq.below
  generalize hW0 : tq.wd = w5 at *
  clear hW0 hxt
  have k5 : Below w.heap.size w w5 := ext_step k4 (by omega) hb
  have p5 := hb.size
  replace hk0 := hk0.ext hb
  clear bx0_4
  have bl0 := Nat.lt_of_lt_of_le bl0 hb.size
  clear hb
  go_wp2_with fail
  refine (hSP _).mono ?_
  rintro e w6 ⟨rfl, hb⟩
  have k6 : Below w.heap.size w w6 := ext_step k5 (by omega) hb
  have p6 := hb.size
  replace hk0 := hk0.ext hb
  have bl0 := Nat.lt_of_lt_of_le bl0 hb.size
  clear hb
  go_wp2_with fail
  refine (hK _).mono ?_
  rintro e w7 ⟨rfl, hb⟩
  have k7 : Below w.heap.size w w7 := ext_step k6 (by omega) hb
  have p7 := hb.size
  replace hk0 := hk0.ext hb
  have bl0 := Nat.lt_of_lt_of_le bl0 hb.size
  clear hb
  have bx0_4 := hk0.at_ 4 _ rfl
  go_wp2_with fail
  refine (hC2 _).mono ?_
  rintro e w8 ⟨rfl, hb⟩
  have k8 : Below w.heap.size w w8 := ext_step k7 (by omega) hb
  have p8 := hb.size
  replace hk0 := hk0.ext hb
  clear bx0_4
  have bl0 := Nat.lt_of_lt_of_le bl0 hb.size
  clear hb
  clear  hk0
  go_wp2_with fail
  refine (hW1 _).mono ?_
  rintro e w9 ⟨rfl, hb⟩
  have k9 : Below w.heap.size w w9 := ext_step k8 (by omega) hb
  have p9 := hb.size
  have bl0 := Nat.lt_of_lt_of_le bl0 hb.size
  clear hb
  go_wp2_with fail
  refine (hP1 _).mono ?_
  rintro e w10 ⟨rfl, hb⟩
  have k10 : Below w.heap.size w w10 := ext_step k9 (by omega) hb
  have p10 := hb.size
  have bl0 := Nat.lt_of_lt_of_le bl0 hb.size
  clear hb
  go_wp2_with fail
  refine (hW2 _).mono ?_
  rintro e w11 ⟨rfl, hb⟩
  have k11 : Below w.heap.size w w11 := ext_step k10 (by omega) hb
  have p11 := hb.size
  have bl0 := Nat.lt_of_lt_of_le bl0 hb.size
  clear hb
  go_wp2_with fail
  refine (hP2 _).mono ?_
  rintro e w12 ⟨rfl, hb⟩
  have k12 : Below w.heap.size w w12 := ext_step k11 (by omega) hb
  have p12 := hb.size
  have bl0 := Nat.lt_of_lt_of_le bl0 hb.size
  clear hb
  go_wp2_with fail
  refine (hR _).mono ?_
  rintro e w13 ⟨rfl, hb⟩
  have k13 : Below w.heap.size w w13 := ext_step k12 (by omega) hb
  have p13 := hb.size
  have bl0 := Nat.lt_of_lt_of_le bl0 hb.size
  clear hb
  go_wp2_with fail
  obtain ⟨w14, hW0⟩ : ∃ W, W = (w13.alloc (.cells #[.int .i64 0, .int .i64 0, .int .i64 0, .int .i64 0, .int .i64 0, .int .i64 0, .int .i64 0, .int .i64 0, .int .i64 0, .int .i64 0, .int .i64 0, .int .i64 0, .int .i64 0, .int .i64 0, .int .i64 0, .string ByteArray.empty] 31)) := ⟨_, rfl⟩
  have hb : Below w13.heap.size w13 w14 := by rw [hW0]; go_grown
  have bl1 : w13.heap.size < w14.heap.size := by rw [hW0]; go_size
  have hk1 : Blk w14 (w13.heap.size) 31 [.int .i64 0, .int .i64 0, .int .i64 0, .int .i64 0, .int .i64 0, .int .i64 0, .int .i64 0, .int .i64 0, .int .i64 0, .int .i64 0, .int .i64 0, .int .i64 0, .int .i64 0, .int .i64 0, .int .i64 0, .string ByteArray.empty] := by rw [hW0]; exact Blk.new _ _ _
  rw [← hW0]
  clear hW0
  have k14 := ext_step k13 (by omega) hb
  have p14 := hb.size
  have bl0 := Nat.lt_of_lt_of_le bl0 hb.size
  clear hb
  refine (hT _).mono ?_
  rintro e w15 ⟨rfl, hb⟩
  have k15 : Below w.heap.size w w15 := ext_step k14 (by omega) hb
  have p15 := hb.size
  replace hk1 := hk1.ext hb
  have bl0 := Nat.lt_of_lt_of_le bl0 hb.size
  have bl1 := Nat.lt_of_lt_of_le bl1 hb.size
  clear hb
  clear  hk1
  go_wp2_with fail
  refine bodyPost_ret (v := .tuple #[.string ByteArray.empty, .bool false]) (by simp [results, Try.results16, go_sem]; rfl) rfl ?_
  exact ⟨rfl, k15⟩
set_option maxRecDepth 100000 in
set_option maxHeartbeats 4000000 in
theorem implFillSums_c (t : ByteArray) (w : World) (ht : t.size ≤ 1048576) :
    Calls Try.prog 16 #[.string t] w fun e w' => e = .returned (.tuple #[.string (outF t), .bool (goodF t)]) ∧ Below w.heap.size w w' := by
  have hE := fun u => implParseEth_c t u ht
  cases hok0 : okE t
  · have hg : goodF t = false := not_goodI (fun h => by have := h.1; rw [hok0] at this; exact absurd this (by decide))
    rw [hg, outF_no hg]
    clear hg
    simp only [hok0, ethI_no hok0, ethT_no hok0] at hE
    have hN := fun u => implGet16_c ByteArray.empty 2 u (by decide) ⟨by decide, by decide⟩
    have hn0 : g16 ByteArray.empty 2 = -1 := by decide +kernel
    simp only [hn0] at hN
    clear hn0
    exact implFS_e0 t w hE hN
  · have hBz := okE_bd hok0
    have hB46 : 46 ≤ (bdE t).size := by
      rw [okE, Bool.and_eq_true] at hok0
      obtain ⟨_, _, _, _, _, h6⟩ := ethB_t hok0.2
      obtain ⟨h7, _⟩ := inB_t h6
      omega
    simp only [hok0, ethI_yes hok0, ethT_yes hok0] at hE
    have hnn : g16 (bdE t) 2 = nF t := rfl
    have hkk : byt (bdE t) 9 = kdF t := rfl
    have hgg : (bdE t).extract 20 (nF t).toNat = gF t := rfl
    have hxx : xF t = chk ((bdE t).extract 0 20) := rfl
    have hyy : yF t = fixS (kdF t) (chk (psH (g32 (bdE t) 12) (g32 (bdE t) 16) (kdF t) ((gF t).size : Int) ++ gF t)) := rfl
    have hpre : ∀ P : Prop, ((20 ≤ nF t ∧ nF t ≤ ((bdE t).size : Int) ∧ plcI (kdF t) + 2 ≤ ((gF t).size : Int)) → False) → preI t → False := fun _ h1 h2 => h1 h2.2
    obtain ⟨D, e_D⟩ : ∃ x, dstE t = x := ⟨_, rfl⟩
    obtain ⟨S, e_S⟩ : ∃ x, srcE t = x := ⟨_, rfl⟩
    obtain ⟨V, e_V⟩ : ∃ x, vlE t = x := ⟨_, rfl⟩
    obtain ⟨T, e_T⟩ : ∃ x, tyE t = x := ⟨_, rfl⟩
    obtain ⟨B, e_B⟩ : ∃ x, bdE t = x := ⟨_, rfl⟩
    simp only [e_D, e_S, e_V, e_T, e_B] at hE hBz hB46 hnn hkk hgg hxx hyy hpre
    have hN := fun u => implGet16_c B 2 u (by omega) ⟨by decide, by decide⟩
    obtain ⟨n, e_n⟩ : ∃ x, nF t = x := ⟨_, rfl⟩
    simp only [hnn, e_n] at hN hgg hpre
    have hnb := g16_bd B 2
    rw [hnn, e_n] at hnb
    clear e_D e_S e_V e_T hnn hok0
    by_cases h20 : 20 ≤ n
    · by_cases hnB : n ≤ (B.size : Int)
      · have x9 := idxi (s := B) (i := 9) (k := 9) rfl (by omega)
        have kb := byt_bd B 9
        have h12 := fun u => implGet32_c B 12 u (by omega) ⟨by decide, by decide⟩
        have h16 := fun u => implGet32_c B 16 u (by omega) ⟨by decide, by decide⟩
        have s0 := g32_nn (s := B) (a := 12) (hasI (by decide) (by omega))
        have s1 := g32_bd B 12
        have d0 := g32_nn (s := B) (a := 16) (hasI (by decide) (by omega))
        have d1 := g32_bd B 16
        have hP := fun u => implPlaces_c t u ht
        have hab : 0 ≤ (atN t : Int) + 10 ∧ (atN t : Int) + 10 ≤ 28 := by unfold atN; split <;> omega
        have hsb : 0 ≤ sumN t ∧ sumN t ≤ 54 := by unfold sumN plcI atN; split <;> split <;> omega
        obtain ⟨kd, e_k⟩ : ∃ x, kdF t = x := ⟨_, rfl⟩
        obtain ⟨G, e_G⟩ : ∃ x, gF t = x := ⟨_, rfl⟩
        obtain ⟨si, e_si⟩ : ∃ x, g32 B 12 = x := ⟨_, rfl⟩
        obtain ⟨di, e_di⟩ : ∃ x, g32 B 16 = x := ⟨_, rfl⟩
        obtain ⟨a, e_a⟩ : ∃ x, (atN t : Int) + 10 = x := ⟨_, rfl⟩
        obtain ⟨b, e_b⟩ : ∃ x, sumN t = x := ⟨_, rfl⟩
        simp only [e_k, e_G, e_si, e_di, e_a, e_b] at hkk hgg hyy hpre h12 h16 s0 s1 d0 d1 hP hab hsb
        simp only [hkk] at x9 kb
        have ewk : IntKind.i64.wrap kd = kd := IntWalk.i64_in _ ⟨by omega, by omega⟩
        have hGz : G.size ≤ 400 := by rw [← hgg, ByteArray.size_extract]; omega
        have hH := fun u => implPseudoHeader_c si di kd (G.size : Int) u (by simp only [psB, Bool.and_eq_true]; exact ⟨⟨⟨inBi (by omega) (by omega), inBi (by omega) (by omega)⟩, inBi (by omega) (by omega)⟩, inBi (by omega) (by omega)⟩)
        have zH : (psH si di kd (G.size : Int)).size = 12 := by simp only [psH, ByteArray.size_append, strOfNums_size, w32_size (inBi (show 0 ≤ si by omega) (by omega)), w32_size (inBi (show 0 ≤ di by omega) (by omega)), w16_size (inBi (show (0 : Int) ≤ (G.size : Int) by omega) (by omega))]; rfl
        obtain ⟨H, e_H⟩ : ∃ x, psH si di kd (G.size : Int) = x := ⟨_, rfl⟩
        simp only [e_H] at hH zH hyy
        have hSP := fun u => sumPlace_c kd u
        obtain ⟨pl, e_pl⟩ : ∃ x, plcI kd = x := ⟨_, rfl⟩
        have hplb : 6 ≤ plcI kd ∧ plcI kd ≤ 16 := by unfold plcI; split <;> omega
        simp only [e_pl] at hSP hpre hplb
        clear e_si e_di e_H
        by_cases hpl : pl + 2 ≤ (G.size : Int)
        · have zHG : (H ++ G).size = 12 + G.size := by rw [ByteArray.size_append, zH]
          have hov : ¬ 9223372036854775807 < 12 + G.size := by omega
          have hK := fun u => implChecksum_c (H ++ G) u (by omega)
          have yb := chk_bd (H ++ G)
          obtain ⟨x, e_x⟩ : ∃ x, chk (H ++ G) = x := ⟨_, rfl⟩
          simp only [e_x] at hK yb hyy
          obtain ⟨B20, e_20⟩ : ∃ x, B.extract 0 20 = x := ⟨_, rfl⟩
          have z20 : B20.size = 20 := by rw [← e_20, ex_size _ _ _ (by omega)]
          have hC2 := fun u => implChecksum_c B20 u (by omega)
          have xb := chk_bd B20
          rw [e_20] at hxx
          obtain ⟨xx, e_xx⟩ : ∃ x, chk B20 = x := ⟨_, rfl⟩
          simp only [e_xx] at hC2 xb hxx
          have hW1 := fun u => implWord16_c xx u ⟨by omega, by omega⟩
          have zwx := w16_size (v := xx) (inBi (by omega) (by omega))
          obtain ⟨wx, e_wx⟩ : ∃ x, w16 xx = x := ⟨_, rfl⟩
          simp only [e_wx] at hW1 zwx
          have hP1 := fun u => implPutBytes_c t wx a u (by omega) (by omega) ⟨by omega, by omega⟩
          have zP := putB_size t a wx
          obtain ⟨t1, e_t1⟩ : ∃ x, putB t a wx = x := ⟨_, rfl⟩
          simp only [e_t1] at hP1 zP
          clear hpre e_pl
          by_cases h17 : kd = 17
          · subst h17
            by_cases hx0 : x = 0
            · subst hx0
              rw [show fixS 17 0 = 65535 from rfl] at hyy
              have hW2 := fun u => implWord16_c 65535 u ⟨by omega, by omega⟩
              have zy := w16_size (v := 65535) (inBi (by omega) (by omega))
              have hP2 := fun u => implPutBytes_c t1 (w16 65535) b u (by omega) (by omega) ⟨by omega, by omega⟩
              have z2 := putB_size t1 b (w16 65535)
              obtain ⟨wy, e_wy⟩ : ∃ z, w16 65535 = z := ⟨_, rfl⟩
              obtain ⟨t2, e_t2⟩ : ∃ z, putB t1 b wy = z := ⟨_, rfl⟩
              simp only [e_wy, e_t2] at hW2 hP2 zy z2
              have hf : fillT t = t2 := by rw [fillT, e_a, e_b, hxx, hyy, e_wx, e_t1, e_wy, e_t2]
              have hR := fun u => implReadImage_c t2 u (by omega)
              clear zwx zy e_wy e_t2 zP
              by_cases hc : rdC t2 = 0
              · have hq : rdQ t2 = rdP t2 := by rw [rdQ, hc, if_pos rfl]
                have hsp := rdC_bd hc
                have hgd : goodF t = ((tmplS (rdP t2)).toList == t.toList) := by rw [goodF, hf, hc]; rfl
                have hou := fun h : goodF t = true => outF_yes h
                rw [hf] at hou
                obtain ⟨p, e_p⟩ : ∃ p, rdP t2 = p := ⟨_, rfl⟩
                rw [e_p] at hq hsp hgd hou
                simp only [hq, hc] at hR
                obtain ⟨⟨_, _, hbz⟩, _⟩ := segB_t (superB_t hsp).2.2
                have hT := fun u => implTemplate_c p u (by omega)
                have hB := fun u => implBuildImage_c p u (by omega)
                simp only [hsp, if_true] at hT hB
                obtain ⟨tm, e_tm⟩ : ∃ x, tmplS p = x := ⟨_, rfl⟩
                simp only [e_tm] at hT hgd
                cases he : tm.toList == t.toList
                · have hg : goodF t = false := by rw [hgd, he]
                  rw [hg, outF_no hg]
                  clear hg
                  clear hgd hou hsp hq hf e_p e_tm hc
                  exact implFS_atn t w hE hN hP h12 h16 hH hSP hK hC2 hW1 hP1 hW2 hP2 h20 hnB hBz hB46 hgg hkk hplb hpl zH e_20 hR hT he
                · have hg : goodF t = true := by rw [hgd, he]
                  rw [hg, hou hg]
                  clear hg hgd hou hsp hq hf e_p e_tm hc
                  exact implFS_aok t w hE hN hP h12 h16 hH hSP hK hC2 hW1 hP1 hW2 hP2 h20 hnB hBz hB46 hgg hkk hplb hpl zH e_20 hR hT hB he
              · have hq : rdQ t2 = zeroP := by rw [rdQ, if_neg hc]
                simp only [hq, zeroP] at hR
                obtain ⟨c, e_c⟩ : ∃ c, rdC t2 = c := ⟨_, rfl⟩
                simp only [e_c] at hR
                have hg : goodF t = false := by rw [goodF, hf, decide_eq_false (by omega)]; rfl
                rw [hg, outF_no hg]
                clear hg
                rw [e_c] at hc
                have hT := fun u => implTemplate_c zeroP u (by decide)
                simp only [show superB zeroP = false from by decide, zeroP, Bool.false_eq_true, if_false] at hT
                clear hq hf e_c
                exact implFS_ar0 t w hE hN hP h12 h16 hH hSP hK hC2 hW1 hP1 hW2 hP2 h20 hnB hBz hB46 hgg hkk hplb hpl zH e_20 hR hT hc
            · rw [show fixS 17 x = x from if_neg (fun h => hx0 h.2)] at hyy
              have hW2 := fun u => implWord16_c x u ⟨by omega, by omega⟩
              have zy := w16_size (v := x) (inBi (by omega) (by omega))
              have hP2 := fun u => implPutBytes_c t1 (w16 x) b u (by omega) (by omega) ⟨by omega, by omega⟩
              have z2 := putB_size t1 b (w16 x)
              obtain ⟨wy, e_wy⟩ : ∃ z, w16 x = z := ⟨_, rfl⟩
              obtain ⟨t2, e_t2⟩ : ∃ z, putB t1 b wy = z := ⟨_, rfl⟩
              simp only [e_wy, e_t2] at hW2 hP2 zy z2
              have hf : fillT t = t2 := by rw [fillT, e_a, e_b, hxx, hyy, e_wx, e_t1, e_wy, e_t2]
              have hR := fun u => implReadImage_c t2 u (by omega)
              clear zwx zy e_wy e_t2 zP
              by_cases hc : rdC t2 = 0
              · have hq : rdQ t2 = rdP t2 := by rw [rdQ, hc, if_pos rfl]
                have hsp := rdC_bd hc
                have hgd : goodF t = ((tmplS (rdP t2)).toList == t.toList) := by rw [goodF, hf, hc]; rfl
                have hou := fun h : goodF t = true => outF_yes h
                rw [hf] at hou
                obtain ⟨p, e_p⟩ : ∃ p, rdP t2 = p := ⟨_, rfl⟩
                rw [e_p] at hq hsp hgd hou
                simp only [hq, hc] at hR
                obtain ⟨⟨_, _, hbz⟩, _⟩ := segB_t (superB_t hsp).2.2
                have hT := fun u => implTemplate_c p u (by omega)
                have hB := fun u => implBuildImage_c p u (by omega)
                simp only [hsp, if_true] at hT hB
                obtain ⟨tm, e_tm⟩ : ∃ x, tmplS p = x := ⟨_, rfl⟩
                simp only [e_tm] at hT hgd
                cases he : tm.toList == t.toList
                · have hg : goodF t = false := by rw [hgd, he]
                  rw [hg, outF_no hg]
                  clear hg
                  clear hgd hou hsp hq hf e_p e_tm hc
                  exact implFS_btn t w hE hN hP h12 h16 hH hSP hK hC2 hW1 hP1 hW2 hP2 h20 hnB hBz hB46 hgg hkk hplb hpl zH e_20 hx0 hR hT he
                · have hg : goodF t = true := by rw [hgd, he]
                  rw [hg, hou hg]
                  clear hg hgd hou hsp hq hf e_p e_tm hc
                  exact implFS_bok t w hE hN hP h12 h16 hH hSP hK hC2 hW1 hP1 hW2 hP2 h20 hnB hBz hB46 hgg hkk hplb hpl zH e_20 hx0 hR hT hB he
              · have hq : rdQ t2 = zeroP := by rw [rdQ, if_neg hc]
                simp only [hq, zeroP] at hR
                obtain ⟨c, e_c⟩ : ∃ c, rdC t2 = c := ⟨_, rfl⟩
                simp only [e_c] at hR
                have hg : goodF t = false := by rw [goodF, hf, decide_eq_false (by omega)]; rfl
                rw [hg, outF_no hg]
                clear hg
                rw [e_c] at hc
                have hT := fun u => implTemplate_c zeroP u (by decide)
                simp only [show superB zeroP = false from by decide, zeroP, Bool.false_eq_true, if_false] at hT
                clear hq hf e_c
                exact implFS_br0 t w hE hN hP h12 h16 hH hSP hK hC2 hW1 hP1 hW2 hP2 h20 hnB hBz hB46 hgg hkk hplb hpl zH e_20 hx0 hR hT hc
          · rw [show fixS kd x = x from if_neg (fun h => h17 h.1)] at hyy
            have hW2 := fun u => implWord16_c x u ⟨by omega, by omega⟩
            have zy := w16_size (v := x) (inBi (by omega) (by omega))
            have hP2 := fun u => implPutBytes_c t1 (w16 x) b u (by omega) (by omega) ⟨by omega, by omega⟩
            have z2 := putB_size t1 b (w16 x)
            obtain ⟨wy, e_wy⟩ : ∃ z, w16 x = z := ⟨_, rfl⟩
            obtain ⟨t2, e_t2⟩ : ∃ z, putB t1 b wy = z := ⟨_, rfl⟩
            simp only [e_wy, e_t2] at hW2 hP2 zy z2
            have hf : fillT t = t2 := by rw [fillT, e_a, e_b, hxx, hyy, e_wx, e_t1, e_wy, e_t2]
            have hR := fun u => implReadImage_c t2 u (by omega)
            clear zwx zy e_wy e_t2 zP
            by_cases hc : rdC t2 = 0
            · have hq : rdQ t2 = rdP t2 := by rw [rdQ, hc, if_pos rfl]
              have hsp := rdC_bd hc
              have hgd : goodF t = ((tmplS (rdP t2)).toList == t.toList) := by rw [goodF, hf, hc]; rfl
              have hou := fun h : goodF t = true => outF_yes h
              rw [hf] at hou
              obtain ⟨p, e_p⟩ : ∃ p, rdP t2 = p := ⟨_, rfl⟩
              rw [e_p] at hq hsp hgd hou
              simp only [hq, hc] at hR
              obtain ⟨⟨_, _, hbz⟩, _⟩ := segB_t (superB_t hsp).2.2
              have hT := fun u => implTemplate_c p u (by omega)
              have hB := fun u => implBuildImage_c p u (by omega)
              simp only [hsp, if_true] at hT hB
              obtain ⟨tm, e_tm⟩ : ∃ x, tmplS p = x := ⟨_, rfl⟩
              simp only [e_tm] at hT hgd
              cases he : tm.toList == t.toList
              · have hg : goodF t = false := by rw [hgd, he]
                rw [hg, outF_no hg]
                clear hg
                clear hgd hou hsp hq hf e_p e_tm hc
                exact implFS_ctn t w hE hN hP h12 h16 hH hSP hK hC2 hW1 hP1 hW2 hP2 h20 hnB hBz hB46 hgg hkk hplb hpl zH e_20 h17 hR hT he
              · have hg : goodF t = true := by rw [hgd, he]
                rw [hg, hou hg]
                clear hg hgd hou hsp hq hf e_p e_tm hc
                exact implFS_cok t w hE hN hP h12 h16 hH hSP hK hC2 hW1 hP1 hW2 hP2 h20 hnB hBz hB46 hgg hkk hplb hpl zH e_20 h17 hR hT hB he
            · have hq : rdQ t2 = zeroP := by rw [rdQ, if_neg hc]
              simp only [hq, zeroP] at hR
              obtain ⟨c, e_c⟩ : ∃ c, rdC t2 = c := ⟨_, rfl⟩
              simp only [e_c] at hR
              have hg : goodF t = false := by rw [goodF, hf, decide_eq_false (by omega)]; rfl
              rw [hg, outF_no hg]
              clear hg
              rw [e_c] at hc
              have hT := fun u => implTemplate_c zeroP u (by decide)
              simp only [show superB zeroP = false from by decide, zeroP, Bool.false_eq_true, if_false] at hT
              clear hq hf e_c
              exact implFS_cr0 t w hE hN hP h12 h16 hH hSP hK hC2 hW1 hP1 hW2 hP2 h20 hnB hBz hB46 hgg hkk hplb hpl zH e_20 h17 hR hT hc
        · have hg : goodF t = false := not_goodI (hpre True (fun h => hpl h.2.2))
          rw [hg, outF_no hg]
          clear hg
          exact implFS_pl t w hE hN hP h12 h16 hH hSP h20 hnB hBz hB46 hgg hkk hplb hpl
      · have hg : goodF t = false := not_goodI (hpre True (fun h => hnB h.2.1))
        rw [hg, outF_no hg]
        clear hg
        exact implFS_n1 t w hE hN h20 hnB hBz
    · have hg : goodF t = false := not_goodI (hpre True (fun h => h20 h.1))
      rw [hg, outF_no hg]
      clear hg
      exact implFS_n0 t w hE hN h20 hBz
end Go.Proofs.Ytifbfmafogmemaa
