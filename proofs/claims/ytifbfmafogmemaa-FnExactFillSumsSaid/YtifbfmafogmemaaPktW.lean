/- Contracts of FillSums: spec; the walk of laws.FnExactFillSums. -/
import Derived.Test.YtifbfmafogmemaaPktU
import Derived.Test.YtifbfmafogmemaaPktT
import Derived.Deep.RegionWith
namespace Go.Proofs.Ytifbfmafogmemaa
set_option linter.unusedSimpArgs false
set_option linter.unusedVariables false
open Go.RowKit Go.ChangeShapes Go.WideShapes
set_option maxRecDepth 100000 in
set_option maxHeartbeats 2000000 in
theorem specPlaces0_c (t : ByteArray) (w : World) (ht : t.size ≤ 1048576) (hl : ¬ atN t + 46 ≤ t.size) :
    Calls Try.prog 49 #[.string t] w fun e w' => e = .returned (.tuple #[.int .i64 (-1), .int .i64 (-1)]) ∧ Below w.heap.size w w' := by
  by_cases h12 : g16 t 12 = 33024
  · have ha : atN t = 18 := by rw [atN, if_pos h12]
    have l0 : (t.size : Int) < (64 : Int) := by omega
    go_enter Try.func49, Try.ntmps49
    go_wp2_with fail
    refine (specGet16_c t 12 _ ht ⟨by decide, by decide⟩).mono ?_
    rintro e w1 ⟨rfl, hb⟩
    rw [h12]
    go_wp2
    refine bodyPost_ret (v := .tuple #[.int .i64 (-1), .int .i64 (-1)]) (by simp [results, Try.results49, go_sem]) rfl ?_
    exact ⟨rfl, hb⟩
  · have ha : atN t = 14 := by rw [atN, if_neg h12]
    have l0 : (t.size : Int) < (60 : Int) := by omega
    go_enter Try.func49, Try.ntmps49
    go_wp2_with fail
    refine (specGet16_c t 12 _ ht ⟨by decide, by decide⟩).mono ?_
    rintro e w1 ⟨rfl, hb⟩
    go_wp2
    refine bodyPost_ret (v := .tuple #[.int .i64 (-1), .int .i64 (-1)]) (by simp [results, Try.results49, go_sem]) rfl ?_
    exact ⟨rfl, hb⟩
set_option maxRecDepth 100000 in
set_option maxHeartbeats 4000000 in
theorem specFS_atn (t : ByteArray) (w : World) {B20 G H wx wy t1 t2 tm : ByteArray} {A n b si di xx : Int} {p : Packet} (hP : ∀ u : World, Calls Try.prog 49 #[.string t] u fun e w' => e = .returned (.tuple #[.int .i64 (A + 10), .int .i64 b]) ∧ Below u.heap.size u w') (hA : ∀ u : World, Calls Try.prog 56 #[.string t, .int .i64 (A + 10)] u fun e w' => e = .returned (.int .i64 0) ∧ Below u.heap.size u w') (hBb : ∀ u : World, Calls Try.prog 56 #[.string t, .int .i64 b] u fun e w' => e = .returned (.int .i64 0) ∧ Below u.heap.size u w') (hN : ∀ u : World, Calls Try.prog 56 #[.string t, .int .i64 (A + 2)] u fun e w' => e = .returned (.int .i64 n) ∧ Below u.heap.size u w') (hC2 : ∀ u : World, Calls Try.prog 57 #[.string B20] u fun e w' => e = .returned (.int .i64 xx) ∧ Below u.heap.size u w') (h12 : ∀ u : World, Calls Try.prog 59 #[.string t, .int .i64 (A + 12)] u fun e w' => e = .returned (.int .i64 si) ∧ Below u.heap.size u w') (h16 : ∀ u : World, Calls Try.prog 59 #[.string t, .int .i64 (A + 16)] u fun e w' => e = .returned (.int .i64 di) ∧ Below u.heap.size u w') (hH : ∀ u : World, Calls Try.prog 58 #[.int .i64 si, .int .i64 di, .int .i64 17, .int .i64 (n - 20)] u fun e w' => e = .returned (.tuple #[.string H, .bool true]) ∧ Below u.heap.size u w') (hK : ∀ u : World, Calls Try.prog 57 #[.string (H ++ G)] u fun e w' => e = .returned (.int .i64 0) ∧ Below u.heap.size u w') (hW1 : ∀ u : World, Calls Try.prog 51 #[.int .i64 xx] u fun e w' => e = .returned (.string wx) ∧ Below u.heap.size u w') (hP1 : ∀ u : World, Calls Try.prog 50 #[.string t, .int .i64 (A + 10), .string wx] u fun e w' => e = .returned (.string t1) ∧ Below u.heap.size u w') (hW2 : ∀ u : World, Calls Try.prog 51 #[.int .i64 65535] u fun e w' => e = .returned (.string wy) ∧ Below u.heap.size u w') (hP2 : ∀ u : World, Calls Try.prog 50 #[.string t1, .int .i64 b, .string wy] u fun e w' => e = .returned (.string t2) ∧ Below u.heap.size u w') (ht : t.size ≤ 1048576) (hsz : A + 46 ≤ (t.size : Int)) (hA2 : 14 ≤ A ∧ A ≤ 18) (hbd2 : 20 ≤ b ∧ b ≤ 54) (r2 : byt t (A + 9).toNat = 17) (hnb : -1 ≤ n ∧ n ≤ 65535) (hlo : b + 2 - A ≤ n) (hhi : n ≤ (t.size : Int) - A) (r6 : t.extract A.toNat (A + 20).toNat = B20) (r8 : t.extract (A + 20).toNat (A + n).toNat = G) (hnz : (G.size : Int) = n - 20) (zH : H.size = 12) (hR : ∀ u : World, Calls Try.prog 60 #[.string t2] u fun e w' => e = .returned (.tuple #[.agg #[.int .i64 p.dmac, .int .i64 p.smac, .int .i64 p.vlan, .int .i64 p.tos, .int .i64 p.id, .int .i64 p.ttl, .int .i64 p.sip, .int .i64 p.dip, .int .i64 p.seg_kind, .int .i64 p.seg_sport, .int .i64 p.seg_dport, .int .i64 p.seg_seq, .int .i64 p.seg_ack, .int .i64 p.seg_flags, .int .i64 p.seg_win, .string p.seg_body], .int .i64 0]) ∧ Below u.heap.size u w') (hT : ∀ u : World, Calls Try.prog 12 #[.agg #[.int .i64 p.dmac, .int .i64 p.smac, .int .i64 p.vlan, .int .i64 p.tos, .int .i64 p.id, .int .i64 p.ttl, .int .i64 p.sip, .int .i64 p.dip, .int .i64 p.seg_kind, .int .i64 p.seg_sport, .int .i64 p.seg_dport, .int .i64 p.seg_seq, .int .i64 p.seg_ack, .int .i64 p.seg_flags, .int .i64 p.seg_win, .string p.seg_body]] u fun e w' => e = .returned (.tuple #[.string tm, .bool true]) ∧ Below u.heap.size u w') (he : (tm.toList == t.toList) = false) :
    Calls Try.prog 15 #[.string t] w fun e w' => e = .returned (.tuple #[.string ByteArray.empty, .bool false]) ∧ Below w.heap.size w w' := by
  have x9 := idxi (s := t) (i := A + 9) (k := (A + 9).toNat) (by omega) (by omega)
  have kb := byt_bd t (A + 9).toNat
  simp only [r2] at x9 kb
  have ewk : IntKind.i64.wrap 17 = 17 := IntWalk.i64_in _ ⟨by omega, by omega⟩
  have zHG : (H ++ G).size = 12 + G.size := by rw [ByteArray.size_append, zH]
  have hov : ¬ 9223372036854775807 < 12 + G.size := by omega
  go_enter Try.func15, Try.ntmps15
  go_wp2_with fail
  have k0 : Below w.heap.size w w := by go_grown
  have p0 := k0.size
  refine (hP _).mono ?_
  rintro e w1 ⟨rfl, hb⟩
  have k1 : Below w.heap.size w w1 := ext_step k0 (by omega) hb
  have p1 := hb.size
  clear hb
  go_wp2_with fail
  refine (hA _).mono ?_
  rintro e w2 ⟨rfl, hb⟩
  have k2 : Below w.heap.size w w2 := ext_step k1 (by omega) hb
  have p2 := hb.size
  clear hb
  go_wp2_with fail
  refine (hBb _).mono ?_
  rintro e w3 ⟨rfl, hb⟩
  have k3 : Below w.heap.size w w3 := ext_step k2 (by omega) hb
  have p3 := hb.size
  clear hb
  go_wp2_with fail
  refine (hN _).mono ?_
  rintro e w4 ⟨rfl, hb⟩
  have k4 : Below w.heap.size w w4 := ext_step k3 (by omega) hb
  have p4 := hb.size
  clear hb
  go_wp2_with fail
  refine (hC2 _).mono ?_
  rintro e w5 ⟨rfl, hb⟩
  have k5 : Below w.heap.size w w5 := ext_step k4 (by omega) hb
  have p5 := hb.size
  clear hb
  go_wp2_with fail
  refine (h12 _).mono ?_
  rintro e w6 ⟨rfl, hb⟩
  have k6 : Below w.heap.size w w6 := ext_step k5 (by omega) hb
  have p6 := hb.size
  clear hb
  go_wp2_with fail
  refine (h16 _).mono ?_
  rintro e w7 ⟨rfl, hb⟩
  have k7 : Below w.heap.size w w7 := ext_step k6 (by omega) hb
  have p7 := hb.size
  clear hb
  go_wp2_with fail
  refine (hH _).mono ?_
  rintro e w8 ⟨rfl, hb⟩
  have k8 : Below w.heap.size w w8 := ext_step k7 (by omega) hb
  have p8 := hb.size
  clear hb
  go_wp2_with fail
  refine (hK _).mono ?_
  rintro e w9 ⟨rfl, hb⟩
  have k9 : Below w.heap.size w w9 := ext_step k8 (by omega) hb
  have p9 := hb.size
  clear hb
  go_wp2_with fail
  refine (hW1 _).mono ?_
  rintro e w10 ⟨rfl, hb⟩
  have k10 : Below w.heap.size w w10 := ext_step k9 (by omega) hb
  have p10 := hb.size
  clear hb
  go_wp2_with fail
  refine (hP1 _).mono ?_
  rintro e w11 ⟨rfl, hb⟩
  have k11 : Below w.heap.size w w11 := ext_step k10 (by omega) hb
  have p11 := hb.size
  clear hb
  go_wp2_with fail
  refine (hW2 _).mono ?_
  rintro e w12 ⟨rfl, hb⟩
  have k12 : Below w.heap.size w w12 := ext_step k11 (by omega) hb
  have p12 := hb.size
  clear hb
  go_wp2_with fail
  refine (hP2 _).mono ?_
  rintro e w13 ⟨rfl, hb⟩
  have k13 : Below w.heap.size w w13 := ext_step k12 (by omega) hb
  have p13 := hb.size
  clear hb
  go_wp2_with fail
  refine (hR _).mono ?_
  rintro e w14 ⟨rfl, hb⟩
  have k14 : Below w.heap.size w w14 := ext_step k13 (by omega) hb
  have p14 := hb.size
  clear hb
  go_wp2_with fail
  obtain ⟨w15, hW0⟩ : ∃ W, W = (w14.alloc (.cells #[.int .i64 p.dmac, .int .i64 p.smac, .int .i64 p.vlan, .int .i64 p.tos, .int .i64 p.id, .int .i64 p.ttl, .int .i64 p.sip, .int .i64 p.dip, .int .i64 p.seg_kind, .int .i64 p.seg_sport, .int .i64 p.seg_dport, .int .i64 p.seg_seq, .int .i64 p.seg_ack, .int .i64 p.seg_flags, .int .i64 p.seg_win, .string p.seg_body] 31)) := ⟨_, rfl⟩
  have hb : Below w14.heap.size w14 w15 := by rw [hW0]; go_grown
  have bl0 : w14.heap.size < w15.heap.size := by rw [hW0]; go_size
  have hk0 : Blk w15 (w14.heap.size) 31 [.int .i64 p.dmac, .int .i64 p.smac, .int .i64 p.vlan, .int .i64 p.tos, .int .i64 p.id, .int .i64 p.ttl, .int .i64 p.sip, .int .i64 p.dip, .int .i64 p.seg_kind, .int .i64 p.seg_sport, .int .i64 p.seg_dport, .int .i64 p.seg_seq, .int .i64 p.seg_ack, .int .i64 p.seg_flags, .int .i64 p.seg_win, .string p.seg_body] := by rw [hW0]; exact Blk.new _ _ _
  rw [← hW0]
  clear hW0
  have k15 := ext_step k14 (by omega) hb
  have p15 := hb.size
  clear hb
  refine (hT _).mono ?_
  rintro e w16 ⟨rfl, hb⟩
  have k16 : Below w.heap.size w w16 := ext_step k15 (by omega) hb
  have p16 := hb.size
  replace hk0 := hk0.ext hb
  have bl0 := Nat.lt_of_lt_of_le bl0 hb.size
  clear hb
  clear  hk0
  go_wp2_with fail
  refine bodyPost_ret (v := .tuple #[.string ByteArray.empty, .bool false]) (by simp [results, Try.results15, go_sem]; rfl) rfl ?_
  exact ⟨rfl, k16⟩
set_option maxRecDepth 100000 in
set_option maxHeartbeats 4000000 in
theorem specFS_aok (t : ByteArray) (w : World) {B20 G H wx wy t1 t2 tm : ByteArray} {A n b si di xx : Int} {p : Packet} (hP : ∀ u : World, Calls Try.prog 49 #[.string t] u fun e w' => e = .returned (.tuple #[.int .i64 (A + 10), .int .i64 b]) ∧ Below u.heap.size u w') (hA : ∀ u : World, Calls Try.prog 56 #[.string t, .int .i64 (A + 10)] u fun e w' => e = .returned (.int .i64 0) ∧ Below u.heap.size u w') (hBb : ∀ u : World, Calls Try.prog 56 #[.string t, .int .i64 b] u fun e w' => e = .returned (.int .i64 0) ∧ Below u.heap.size u w') (hN : ∀ u : World, Calls Try.prog 56 #[.string t, .int .i64 (A + 2)] u fun e w' => e = .returned (.int .i64 n) ∧ Below u.heap.size u w') (hC2 : ∀ u : World, Calls Try.prog 57 #[.string B20] u fun e w' => e = .returned (.int .i64 xx) ∧ Below u.heap.size u w') (h12 : ∀ u : World, Calls Try.prog 59 #[.string t, .int .i64 (A + 12)] u fun e w' => e = .returned (.int .i64 si) ∧ Below u.heap.size u w') (h16 : ∀ u : World, Calls Try.prog 59 #[.string t, .int .i64 (A + 16)] u fun e w' => e = .returned (.int .i64 di) ∧ Below u.heap.size u w') (hH : ∀ u : World, Calls Try.prog 58 #[.int .i64 si, .int .i64 di, .int .i64 17, .int .i64 (n - 20)] u fun e w' => e = .returned (.tuple #[.string H, .bool true]) ∧ Below u.heap.size u w') (hK : ∀ u : World, Calls Try.prog 57 #[.string (H ++ G)] u fun e w' => e = .returned (.int .i64 0) ∧ Below u.heap.size u w') (hW1 : ∀ u : World, Calls Try.prog 51 #[.int .i64 xx] u fun e w' => e = .returned (.string wx) ∧ Below u.heap.size u w') (hP1 : ∀ u : World, Calls Try.prog 50 #[.string t, .int .i64 (A + 10), .string wx] u fun e w' => e = .returned (.string t1) ∧ Below u.heap.size u w') (hW2 : ∀ u : World, Calls Try.prog 51 #[.int .i64 65535] u fun e w' => e = .returned (.string wy) ∧ Below u.heap.size u w') (hP2 : ∀ u : World, Calls Try.prog 50 #[.string t1, .int .i64 b, .string wy] u fun e w' => e = .returned (.string t2) ∧ Below u.heap.size u w') (ht : t.size ≤ 1048576) (hsz : A + 46 ≤ (t.size : Int)) (hA2 : 14 ≤ A ∧ A ≤ 18) (hbd2 : 20 ≤ b ∧ b ≤ 54) (r2 : byt t (A + 9).toNat = 17) (hnb : -1 ≤ n ∧ n ≤ 65535) (hlo : b + 2 - A ≤ n) (hhi : n ≤ (t.size : Int) - A) (r6 : t.extract A.toNat (A + 20).toNat = B20) (r8 : t.extract (A + 20).toNat (A + n).toNat = G) (hnz : (G.size : Int) = n - 20) (zH : H.size = 12) (hR : ∀ u : World, Calls Try.prog 60 #[.string t2] u fun e w' => e = .returned (.tuple #[.agg #[.int .i64 p.dmac, .int .i64 p.smac, .int .i64 p.vlan, .int .i64 p.tos, .int .i64 p.id, .int .i64 p.ttl, .int .i64 p.sip, .int .i64 p.dip, .int .i64 p.seg_kind, .int .i64 p.seg_sport, .int .i64 p.seg_dport, .int .i64 p.seg_seq, .int .i64 p.seg_ack, .int .i64 p.seg_flags, .int .i64 p.seg_win, .string p.seg_body], .int .i64 0]) ∧ Below u.heap.size u w') (hT : ∀ u : World, Calls Try.prog 12 #[.agg #[.int .i64 p.dmac, .int .i64 p.smac, .int .i64 p.vlan, .int .i64 p.tos, .int .i64 p.id, .int .i64 p.ttl, .int .i64 p.sip, .int .i64 p.dip, .int .i64 p.seg_kind, .int .i64 p.seg_sport, .int .i64 p.seg_dport, .int .i64 p.seg_seq, .int .i64 p.seg_ack, .int .i64 p.seg_flags, .int .i64 p.seg_win, .string p.seg_body]] u fun e w' => e = .returned (.tuple #[.string tm, .bool true]) ∧ Below u.heap.size u w') (hB : ∀ u : World, Calls Try.prog 48 #[.agg #[.int .i64 p.dmac, .int .i64 p.smac, .int .i64 p.vlan, .int .i64 p.tos, .int .i64 p.id, .int .i64 p.ttl, .int .i64 p.sip, .int .i64 p.dip, .int .i64 p.seg_kind, .int .i64 p.seg_sport, .int .i64 p.seg_dport, .int .i64 p.seg_seq, .int .i64 p.seg_ack, .int .i64 p.seg_flags, .int .i64 p.seg_win, .string p.seg_body]] u fun e w' => e = .returned (.tuple #[.string (imgS p), .bool true]) ∧ Below u.heap.size u w') (he : (tm.toList == t.toList) = true) :
    Calls Try.prog 15 #[.string t] w fun e w' => e = .returned (.tuple #[.string (imgS p), .bool true]) ∧ Below w.heap.size w w' := by
  have x9 := idxi (s := t) (i := A + 9) (k := (A + 9).toNat) (by omega) (by omega)
  have kb := byt_bd t (A + 9).toNat
  simp only [r2] at x9 kb
  have ewk : IntKind.i64.wrap 17 = 17 := IntWalk.i64_in _ ⟨by omega, by omega⟩
  have zHG : (H ++ G).size = 12 + G.size := by rw [ByteArray.size_append, zH]
  have hov : ¬ 9223372036854775807 < 12 + G.size := by omega
  go_enter Try.func15, Try.ntmps15
  go_wp2_with fail
  have k0 : Below w.heap.size w w := by go_grown
  have p0 := k0.size
  refine (hP _).mono ?_
  rintro e w1 ⟨rfl, hb⟩
  have k1 : Below w.heap.size w w1 := ext_step k0 (by omega) hb
  have p1 := hb.size
  clear hb
  go_wp2_with fail
  refine (hA _).mono ?_
  rintro e w2 ⟨rfl, hb⟩
  have k2 : Below w.heap.size w w2 := ext_step k1 (by omega) hb
  have p2 := hb.size
  clear hb
  go_wp2_with fail
  refine (hBb _).mono ?_
  rintro e w3 ⟨rfl, hb⟩
  have k3 : Below w.heap.size w w3 := ext_step k2 (by omega) hb
  have p3 := hb.size
  clear hb
  go_wp2_with fail
  refine (hN _).mono ?_
  rintro e w4 ⟨rfl, hb⟩
  have k4 : Below w.heap.size w w4 := ext_step k3 (by omega) hb
  have p4 := hb.size
  clear hb
  go_wp2_with fail
  refine (hC2 _).mono ?_
  rintro e w5 ⟨rfl, hb⟩
  have k5 : Below w.heap.size w w5 := ext_step k4 (by omega) hb
  have p5 := hb.size
  clear hb
  go_wp2_with fail
  refine (h12 _).mono ?_
  rintro e w6 ⟨rfl, hb⟩
  have k6 : Below w.heap.size w w6 := ext_step k5 (by omega) hb
  have p6 := hb.size
  clear hb
  go_wp2_with fail
  refine (h16 _).mono ?_
  rintro e w7 ⟨rfl, hb⟩
  have k7 : Below w.heap.size w w7 := ext_step k6 (by omega) hb
  have p7 := hb.size
  clear hb
  go_wp2_with fail
  refine (hH _).mono ?_
  rintro e w8 ⟨rfl, hb⟩
  have k8 : Below w.heap.size w w8 := ext_step k7 (by omega) hb
  have p8 := hb.size
  clear hb
  go_wp2_with fail
  refine (hK _).mono ?_
  rintro e w9 ⟨rfl, hb⟩
  have k9 : Below w.heap.size w w9 := ext_step k8 (by omega) hb
  have p9 := hb.size
  clear hb
  go_wp2_with fail
  refine (hW1 _).mono ?_
  rintro e w10 ⟨rfl, hb⟩
  have k10 : Below w.heap.size w w10 := ext_step k9 (by omega) hb
  have p10 := hb.size
  clear hb
  go_wp2_with fail
  refine (hP1 _).mono ?_
  rintro e w11 ⟨rfl, hb⟩
  have k11 : Below w.heap.size w w11 := ext_step k10 (by omega) hb
  have p11 := hb.size
  clear hb
  go_wp2_with fail
  refine (hW2 _).mono ?_
  rintro e w12 ⟨rfl, hb⟩
  have k12 : Below w.heap.size w w12 := ext_step k11 (by omega) hb
  have p12 := hb.size
  clear hb
  go_wp2_with fail
  refine (hP2 _).mono ?_
  rintro e w13 ⟨rfl, hb⟩
  have k13 : Below w.heap.size w w13 := ext_step k12 (by omega) hb
  have p13 := hb.size
  clear hb
  go_wp2_with fail
  refine (hR _).mono ?_
  rintro e w14 ⟨rfl, hb⟩
  have k14 : Below w.heap.size w w14 := ext_step k13 (by omega) hb
  have p14 := hb.size
  clear hb
  go_wp2_with fail
  obtain ⟨w15, hW0⟩ : ∃ W, W = (w14.alloc (.cells #[.int .i64 p.dmac, .int .i64 p.smac, .int .i64 p.vlan, .int .i64 p.tos, .int .i64 p.id, .int .i64 p.ttl, .int .i64 p.sip, .int .i64 p.dip, .int .i64 p.seg_kind, .int .i64 p.seg_sport, .int .i64 p.seg_dport, .int .i64 p.seg_seq, .int .i64 p.seg_ack, .int .i64 p.seg_flags, .int .i64 p.seg_win, .string p.seg_body] 31)) := ⟨_, rfl⟩
  have hb : Below w14.heap.size w14 w15 := by rw [hW0]; go_grown
  have bl0 : w14.heap.size < w15.heap.size := by rw [hW0]; go_size
  have hk0 : Blk w15 (w14.heap.size) 31 [.int .i64 p.dmac, .int .i64 p.smac, .int .i64 p.vlan, .int .i64 p.tos, .int .i64 p.id, .int .i64 p.ttl, .int .i64 p.sip, .int .i64 p.dip, .int .i64 p.seg_kind, .int .i64 p.seg_sport, .int .i64 p.seg_dport, .int .i64 p.seg_seq, .int .i64 p.seg_ack, .int .i64 p.seg_flags, .int .i64 p.seg_win, .string p.seg_body] := by rw [hW0]; exact Blk.new _ _ _
  rw [← hW0]
  clear hW0
  have k15 := ext_step k14 (by omega) hb
  have p15 := hb.size
  clear hb
  refine (hT _).mono ?_
  rintro e w16 ⟨rfl, hb⟩
  have k16 : Below w.heap.size w w16 := ext_step k15 (by omega) hb
  have p16 := hb.size
  replace hk0 := hk0.ext hb
  have bl0 := Nat.lt_of_lt_of_le bl0 hb.size
  clear hb
  have bx0_0 := hk0.at_ 0 _ rfl
  have bx0_1 := hk0.at_ 1 _ rfl
  have bx0_2 := hk0.at_ 2 _ rfl
  have bx0_3 := hk0.at_ 3 _ rfl
  have bx0_4 := hk0.at_ 4 _ rfl
  have bx0_5 := hk0.at_ 5 _ rfl
  have bx0_6 := hk0.at_ 6 _ rfl
  have bx0_7 := hk0.at_ 7 _ rfl
  have bx0_8 := hk0.at_ 8 _ rfl
  have bx0_9 := hk0.at_ 9 _ rfl
  have bx0_10 := hk0.at_ 10 _ rfl
  have bx0_11 := hk0.at_ 11 _ rfl
  have bx0_12 := hk0.at_ 12 _ rfl
  have bx0_13 := hk0.at_ 13 _ rfl
  have bx0_14 := hk0.at_ 14 _ rfl
  have bx0_15 := hk0.at_ 15 _ rfl
  go_wp2_with fail
  refine (hB _).mono ?_
  rintro e w17 ⟨rfl, hb⟩
  have k17 : Below w.heap.size w w17 := ext_step k16 (by omega) hb
  have p17 := hb.size
  replace hk0 := hk0.ext hb
  clear bx0_0 bx0_1 bx0_2 bx0_3 bx0_4 bx0_5 bx0_6 bx0_7 bx0_8 bx0_9 bx0_10 bx0_11 bx0_12 bx0_13 bx0_14 bx0_15
  have bl0 := Nat.lt_of_lt_of_le bl0 hb.size
  clear hb
  go_wp2_with fail
  refine bodyPost_ret (v := .tuple #[.string (imgS p), .bool true]) (by simp [results, Try.results15, go_sem]) rfl ?_
  exact ⟨rfl, k17⟩
set_option maxRecDepth 100000 in
set_option maxHeartbeats 4000000 in
theorem specFS_ar0 (t : ByteArray) (w : World) {B20 G H wx wy t1 t2 : ByteArray} {A n b si di xx c : Int} (hP : ∀ u : World, Calls Try.prog 49 #[.string t] u fun e w' => e = .returned (.tuple #[.int .i64 (A + 10), .int .i64 b]) ∧ Below u.heap.size u w') (hA : ∀ u : World, Calls Try.prog 56 #[.string t, .int .i64 (A + 10)] u fun e w' => e = .returned (.int .i64 0) ∧ Below u.heap.size u w') (hBb : ∀ u : World, Calls Try.prog 56 #[.string t, .int .i64 b] u fun e w' => e = .returned (.int .i64 0) ∧ Below u.heap.size u w') (hN : ∀ u : World, Calls Try.prog 56 #[.string t, .int .i64 (A + 2)] u fun e w' => e = .returned (.int .i64 n) ∧ Below u.heap.size u w') (hC2 : ∀ u : World, Calls Try.prog 57 #[.string B20] u fun e w' => e = .returned (.int .i64 xx) ∧ Below u.heap.size u w') (h12 : ∀ u : World, Calls Try.prog 59 #[.string t, .int .i64 (A + 12)] u fun e w' => e = .returned (.int .i64 si) ∧ Below u.heap.size u w') (h16 : ∀ u : World, Calls Try.prog 59 #[.string t, .int .i64 (A + 16)] u fun e w' => e = .returned (.int .i64 di) ∧ Below u.heap.size u w') (hH : ∀ u : World, Calls Try.prog 58 #[.int .i64 si, .int .i64 di, .int .i64 17, .int .i64 (n - 20)] u fun e w' => e = .returned (.tuple #[.string H, .bool true]) ∧ Below u.heap.size u w') (hK : ∀ u : World, Calls Try.prog 57 #[.string (H ++ G)] u fun e w' => e = .returned (.int .i64 0) ∧ Below u.heap.size u w') (hW1 : ∀ u : World, Calls Try.prog 51 #[.int .i64 xx] u fun e w' => e = .returned (.string wx) ∧ Below u.heap.size u w') (hP1 : ∀ u : World, Calls Try.prog 50 #[.string t, .int .i64 (A + 10), .string wx] u fun e w' => e = .returned (.string t1) ∧ Below u.heap.size u w') (hW2 : ∀ u : World, Calls Try.prog 51 #[.int .i64 65535] u fun e w' => e = .returned (.string wy) ∧ Below u.heap.size u w') (hP2 : ∀ u : World, Calls Try.prog 50 #[.string t1, .int .i64 b, .string wy] u fun e w' => e = .returned (.string t2) ∧ Below u.heap.size u w') (ht : t.size ≤ 1048576) (hsz : A + 46 ≤ (t.size : Int)) (hA2 : 14 ≤ A ∧ A ≤ 18) (hbd2 : 20 ≤ b ∧ b ≤ 54) (r2 : byt t (A + 9).toNat = 17) (hnb : -1 ≤ n ∧ n ≤ 65535) (hlo : b + 2 - A ≤ n) (hhi : n ≤ (t.size : Int) - A) (r6 : t.extract A.toNat (A + 20).toNat = B20) (r8 : t.extract (A + 20).toNat (A + n).toNat = G) (hnz : (G.size : Int) = n - 20) (zH : H.size = 12) (hR : ∀ u : World, Calls Try.prog 60 #[.string t2] u fun e w' => e = .returned (.tuple #[.agg #[.int .i64 0, .int .i64 0, .int .i64 0, .int .i64 0, .int .i64 0, .int .i64 0, .int .i64 0, .int .i64 0, .int .i64 0, .int .i64 0, .int .i64 0, .int .i64 0, .int .i64 0, .int .i64 0, .int .i64 0, .string ByteArray.empty], .int .i64 c]) ∧ Below u.heap.size u w') (hc : ¬ c = 0) :
    Calls Try.prog 15 #[.string t] w fun e w' => e = .returned (.tuple #[.string ByteArray.empty, .bool false]) ∧ Below w.heap.size w w' := by
  have x9 := idxi (s := t) (i := A + 9) (k := (A + 9).toNat) (by omega) (by omega)
  have kb := byt_bd t (A + 9).toNat
  simp only [r2] at x9 kb
  have ewk : IntKind.i64.wrap 17 = 17 := IntWalk.i64_in _ ⟨by omega, by omega⟩
  have zHG : (H ++ G).size = 12 + G.size := by rw [ByteArray.size_append, zH]
  have hov : ¬ 9223372036854775807 < 12 + G.size := by omega
  go_enter Try.func15, Try.ntmps15
  go_wp2_with fail
  have k0 : Below w.heap.size w w := by go_grown
  have p0 := k0.size
  refine (hP _).mono ?_
  rintro e w1 ⟨rfl, hb⟩
  have k1 : Below w.heap.size w w1 := ext_step k0 (by omega) hb
  have p1 := hb.size
  clear hb
  go_wp2_with fail
  refine (hA _).mono ?_
  rintro e w2 ⟨rfl, hb⟩
  have k2 : Below w.heap.size w w2 := ext_step k1 (by omega) hb
  have p2 := hb.size
  clear hb
  go_wp2_with fail
  refine (hBb _).mono ?_
  rintro e w3 ⟨rfl, hb⟩
  have k3 : Below w.heap.size w w3 := ext_step k2 (by omega) hb
  have p3 := hb.size
  clear hb
  go_wp2_with fail
  refine (hN _).mono ?_
  rintro e w4 ⟨rfl, hb⟩
  have k4 : Below w.heap.size w w4 := ext_step k3 (by omega) hb
  have p4 := hb.size
  clear hb
  go_wp2_with fail
  refine (hC2 _).mono ?_
  rintro e w5 ⟨rfl, hb⟩
  have k5 : Below w.heap.size w w5 := ext_step k4 (by omega) hb
  have p5 := hb.size
  clear hb
  go_wp2_with fail
  refine (h12 _).mono ?_
  rintro e w6 ⟨rfl, hb⟩
  have k6 : Below w.heap.size w w6 := ext_step k5 (by omega) hb
  have p6 := hb.size
  clear hb
  go_wp2_with fail
  refine (h16 _).mono ?_
  rintro e w7 ⟨rfl, hb⟩
  have k7 : Below w.heap.size w w7 := ext_step k6 (by omega) hb
  have p7 := hb.size
  clear hb
  go_wp2_with fail
  refine (hH _).mono ?_
  rintro e w8 ⟨rfl, hb⟩
  have k8 : Below w.heap.size w w8 := ext_step k7 (by omega) hb
  have p8 := hb.size
  clear hb
  go_wp2_with fail
  refine (hK _).mono ?_
  rintro e w9 ⟨rfl, hb⟩
  have k9 : Below w.heap.size w w9 := ext_step k8 (by omega) hb
  have p9 := hb.size
  clear hb
  go_wp2_with fail
  refine (hW1 _).mono ?_
  rintro e w10 ⟨rfl, hb⟩
  have k10 : Below w.heap.size w w10 := ext_step k9 (by omega) hb
  have p10 := hb.size
  clear hb
  go_wp2_with fail
  refine (hP1 _).mono ?_
  rintro e w11 ⟨rfl, hb⟩
  have k11 : Below w.heap.size w w11 := ext_step k10 (by omega) hb
  have p11 := hb.size
  clear hb
  go_wp2_with fail
  refine (hW2 _).mono ?_
  rintro e w12 ⟨rfl, hb⟩
  have k12 : Below w.heap.size w w12 := ext_step k11 (by omega) hb
  have p12 := hb.size
  clear hb
  go_wp2_with fail
  refine (hP2 _).mono ?_
  rintro e w13 ⟨rfl, hb⟩
  have k13 : Below w.heap.size w w13 := ext_step k12 (by omega) hb
  have p13 := hb.size
  clear hb
  go_wp2_with fail
  refine (hR _).mono ?_
  rintro e w14 ⟨rfl, hb⟩
  have k14 : Below w.heap.size w w14 := ext_step k13 (by omega) hb
  have p14 := hb.size
  clear hb
  go_wp2_with fail
  obtain ⟨w15, hW0⟩ : ∃ W, W = (w14.alloc (.cells #[.int .i64 0, .int .i64 0, .int .i64 0, .int .i64 0, .int .i64 0, .int .i64 0, .int .i64 0, .int .i64 0, .int .i64 0, .int .i64 0, .int .i64 0, .int .i64 0, .int .i64 0, .int .i64 0, .int .i64 0, .string ByteArray.empty] 31)) := ⟨_, rfl⟩
  have hb : Below w14.heap.size w14 w15 := by rw [hW0]; go_grown
  have bl0 : w14.heap.size < w15.heap.size := by rw [hW0]; go_size
  have hk0 : Blk w15 (w14.heap.size) 31 [.int .i64 0, .int .i64 0, .int .i64 0, .int .i64 0, .int .i64 0, .int .i64 0, .int .i64 0, .int .i64 0, .int .i64 0, .int .i64 0, .int .i64 0, .int .i64 0, .int .i64 0, .int .i64 0, .int .i64 0, .string ByteArray.empty] := by rw [hW0]; exact Blk.new _ _ _
  rw [← hW0]
  clear hW0
  have k15 := ext_step k14 (by omega) hb
  have p15 := hb.size
  clear hb
  clear  hk0
  refine bodyPost_ret (v := .tuple #[.string ByteArray.empty, .bool false]) (by simp [results, Try.results15, go_sem]; rfl) rfl ?_
  exact ⟨rfl, k15⟩
set_option maxRecDepth 100000 in
set_option maxHeartbeats 4000000 in
theorem specFS_btn (t : ByteArray) (w : World) {B20 G H wx wy t1 t2 tm : ByteArray} {A n b si di x xx : Int} {p : Packet} (hP : ∀ u : World, Calls Try.prog 49 #[.string t] u fun e w' => e = .returned (.tuple #[.int .i64 (A + 10), .int .i64 b]) ∧ Below u.heap.size u w') (hA : ∀ u : World, Calls Try.prog 56 #[.string t, .int .i64 (A + 10)] u fun e w' => e = .returned (.int .i64 0) ∧ Below u.heap.size u w') (hBb : ∀ u : World, Calls Try.prog 56 #[.string t, .int .i64 b] u fun e w' => e = .returned (.int .i64 0) ∧ Below u.heap.size u w') (hN : ∀ u : World, Calls Try.prog 56 #[.string t, .int .i64 (A + 2)] u fun e w' => e = .returned (.int .i64 n) ∧ Below u.heap.size u w') (hC2 : ∀ u : World, Calls Try.prog 57 #[.string B20] u fun e w' => e = .returned (.int .i64 xx) ∧ Below u.heap.size u w') (h12 : ∀ u : World, Calls Try.prog 59 #[.string t, .int .i64 (A + 12)] u fun e w' => e = .returned (.int .i64 si) ∧ Below u.heap.size u w') (h16 : ∀ u : World, Calls Try.prog 59 #[.string t, .int .i64 (A + 16)] u fun e w' => e = .returned (.int .i64 di) ∧ Below u.heap.size u w') (hH : ∀ u : World, Calls Try.prog 58 #[.int .i64 si, .int .i64 di, .int .i64 17, .int .i64 (n - 20)] u fun e w' => e = .returned (.tuple #[.string H, .bool true]) ∧ Below u.heap.size u w') (hK : ∀ u : World, Calls Try.prog 57 #[.string (H ++ G)] u fun e w' => e = .returned (.int .i64 x) ∧ Below u.heap.size u w') (hW1 : ∀ u : World, Calls Try.prog 51 #[.int .i64 xx] u fun e w' => e = .returned (.string wx) ∧ Below u.heap.size u w') (hP1 : ∀ u : World, Calls Try.prog 50 #[.string t, .int .i64 (A + 10), .string wx] u fun e w' => e = .returned (.string t1) ∧ Below u.heap.size u w') (hW2 : ∀ u : World, Calls Try.prog 51 #[.int .i64 x] u fun e w' => e = .returned (.string wy) ∧ Below u.heap.size u w') (hP2 : ∀ u : World, Calls Try.prog 50 #[.string t1, .int .i64 b, .string wy] u fun e w' => e = .returned (.string t2) ∧ Below u.heap.size u w') (ht : t.size ≤ 1048576) (hsz : A + 46 ≤ (t.size : Int)) (hA2 : 14 ≤ A ∧ A ≤ 18) (hbd2 : 20 ≤ b ∧ b ≤ 54) (r2 : byt t (A + 9).toNat = 17) (hnb : -1 ≤ n ∧ n ≤ 65535) (hlo : b + 2 - A ≤ n) (hhi : n ≤ (t.size : Int) - A) (r6 : t.extract A.toNat (A + 20).toNat = B20) (r8 : t.extract (A + 20).toNat (A + n).toNat = G) (hnz : (G.size : Int) = n - 20) (zH : H.size = 12) (hx0 : ¬ x = 0) (hR : ∀ u : World, Calls Try.prog 60 #[.string t2] u fun e w' => e = .returned (.tuple #[.agg #[.int .i64 p.dmac, .int .i64 p.smac, .int .i64 p.vlan, .int .i64 p.tos, .int .i64 p.id, .int .i64 p.ttl, .int .i64 p.sip, .int .i64 p.dip, .int .i64 p.seg_kind, .int .i64 p.seg_sport, .int .i64 p.seg_dport, .int .i64 p.seg_seq, .int .i64 p.seg_ack, .int .i64 p.seg_flags, .int .i64 p.seg_win, .string p.seg_body], .int .i64 0]) ∧ Below u.heap.size u w') (hT : ∀ u : World, Calls Try.prog 12 #[.agg #[.int .i64 p.dmac, .int .i64 p.smac, .int .i64 p.vlan, .int .i64 p.tos, .int .i64 p.id, .int .i64 p.ttl, .int .i64 p.sip, .int .i64 p.dip, .int .i64 p.seg_kind, .int .i64 p.seg_sport, .int .i64 p.seg_dport, .int .i64 p.seg_seq, .int .i64 p.seg_ack, .int .i64 p.seg_flags, .int .i64 p.seg_win, .string p.seg_body]] u fun e w' => e = .returned (.tuple #[.string tm, .bool true]) ∧ Below u.heap.size u w') (he : (tm.toList == t.toList) = false) :
    Calls Try.prog 15 #[.string t] w fun e w' => e = .returned (.tuple #[.string ByteArray.empty, .bool false]) ∧ Below w.heap.size w w' := by
  have x9 := idxi (s := t) (i := A + 9) (k := (A + 9).toNat) (by omega) (by omega)
  have kb := byt_bd t (A + 9).toNat
  simp only [r2] at x9 kb
  have ewk : IntKind.i64.wrap 17 = 17 := IntWalk.i64_in _ ⟨by omega, by omega⟩
  have zHG : (H ++ G).size = 12 + G.size := by rw [ByteArray.size_append, zH]
  have hov : ¬ 9223372036854775807 < 12 + G.size := by omega
  go_enter Try.func15, Try.ntmps15
  go_wp2_with fail
  have k0 : Below w.heap.size w w := by go_grown
  have p0 := k0.size
  refine (hP _).mono ?_
  rintro e w1 ⟨rfl, hb⟩
  have k1 : Below w.heap.size w w1 := ext_step k0 (by omega) hb
  have p1 := hb.size
  clear hb
  go_wp2_with fail
  refine (hA _).mono ?_
  rintro e w2 ⟨rfl, hb⟩
  have k2 : Below w.heap.size w w2 := ext_step k1 (by omega) hb
  have p2 := hb.size
  clear hb
  go_wp2_with fail
  refine (hBb _).mono ?_
  rintro e w3 ⟨rfl, hb⟩
  have k3 : Below w.heap.size w w3 := ext_step k2 (by omega) hb
  have p3 := hb.size
  clear hb
  go_wp2_with fail
  refine (hN _).mono ?_
  rintro e w4 ⟨rfl, hb⟩
  have k4 : Below w.heap.size w w4 := ext_step k3 (by omega) hb
  have p4 := hb.size
  clear hb
  go_wp2_with fail
  refine (hC2 _).mono ?_
  rintro e w5 ⟨rfl, hb⟩
  have k5 : Below w.heap.size w w5 := ext_step k4 (by omega) hb
  have p5 := hb.size
  clear hb
  go_wp2_with fail
  refine (h12 _).mono ?_
  rintro e w6 ⟨rfl, hb⟩
  have k6 : Below w.heap.size w w6 := ext_step k5 (by omega) hb
  have p6 := hb.size
  clear hb
  go_wp2_with fail
  refine (h16 _).mono ?_
  rintro e w7 ⟨rfl, hb⟩
  have k7 : Below w.heap.size w w7 := ext_step k6 (by omega) hb
  have p7 := hb.size
  clear hb
  go_wp2_with fail
  refine (hH _).mono ?_
  rintro e w8 ⟨rfl, hb⟩
  have k8 : Below w.heap.size w w8 := ext_step k7 (by omega) hb
  have p8 := hb.size
  clear hb
  go_wp2_with fail
  refine (hK _).mono ?_
  rintro e w9 ⟨rfl, hb⟩
  have k9 : Below w.heap.size w w9 := ext_step k8 (by omega) hb
  have p9 := hb.size
  clear hb
  go_wp2_with fail
  refine (hW1 _).mono ?_
  rintro e w10 ⟨rfl, hb⟩
  have k10 : Below w.heap.size w w10 := ext_step k9 (by omega) hb
  have p10 := hb.size
  clear hb
  go_wp2_with fail
  refine (hP1 _).mono ?_
  rintro e w11 ⟨rfl, hb⟩
  have k11 : Below w.heap.size w w11 := ext_step k10 (by omega) hb
  have p11 := hb.size
  clear hb
  go_wp2_with fail
  refine (hW2 _).mono ?_
  rintro e w12 ⟨rfl, hb⟩
  have k12 : Below w.heap.size w w12 := ext_step k11 (by omega) hb
  have p12 := hb.size
  clear hb
  go_wp2_with fail
  refine (hP2 _).mono ?_
  rintro e w13 ⟨rfl, hb⟩
  have k13 : Below w.heap.size w w13 := ext_step k12 (by omega) hb
  have p13 := hb.size
  clear hb
  go_wp2_with fail
  refine (hR _).mono ?_
  rintro e w14 ⟨rfl, hb⟩
  have k14 : Below w.heap.size w w14 := ext_step k13 (by omega) hb
  have p14 := hb.size
  clear hb
  go_wp2_with fail
  obtain ⟨w15, hW0⟩ : ∃ W, W = (w14.alloc (.cells #[.int .i64 p.dmac, .int .i64 p.smac, .int .i64 p.vlan, .int .i64 p.tos, .int .i64 p.id, .int .i64 p.ttl, .int .i64 p.sip, .int .i64 p.dip, .int .i64 p.seg_kind, .int .i64 p.seg_sport, .int .i64 p.seg_dport, .int .i64 p.seg_seq, .int .i64 p.seg_ack, .int .i64 p.seg_flags, .int .i64 p.seg_win, .string p.seg_body] 31)) := ⟨_, rfl⟩
  have hb : Below w14.heap.size w14 w15 := by rw [hW0]; go_grown
  have bl0 : w14.heap.size < w15.heap.size := by rw [hW0]; go_size
  have hk0 : Blk w15 (w14.heap.size) 31 [.int .i64 p.dmac, .int .i64 p.smac, .int .i64 p.vlan, .int .i64 p.tos, .int .i64 p.id, .int .i64 p.ttl, .int .i64 p.sip, .int .i64 p.dip, .int .i64 p.seg_kind, .int .i64 p.seg_sport, .int .i64 p.seg_dport, .int .i64 p.seg_seq, .int .i64 p.seg_ack, .int .i64 p.seg_flags, .int .i64 p.seg_win, .string p.seg_body] := by rw [hW0]; exact Blk.new _ _ _
  rw [← hW0]
  clear hW0
  have k15 := ext_step k14 (by omega) hb
  have p15 := hb.size
  clear hb
  refine (hT _).mono ?_
  rintro e w16 ⟨rfl, hb⟩
  have k16 : Below w.heap.size w w16 := ext_step k15 (by omega) hb
  have p16 := hb.size
  replace hk0 := hk0.ext hb
  have bl0 := Nat.lt_of_lt_of_le bl0 hb.size
  clear hb
  clear  hk0
  go_wp2_with fail
  refine bodyPost_ret (v := .tuple #[.string ByteArray.empty, .bool false]) (by simp [results, Try.results15, go_sem]; rfl) rfl ?_
  exact ⟨rfl, k16⟩
set_option maxRecDepth 100000 in
set_option maxHeartbeats 4000000 in
theorem specFS_bok (t : ByteArray) (w : World) {B20 G H wx wy t1 t2 tm : ByteArray} {A n b si di x xx : Int} {p : Packet} (hP : ∀ u : World, Calls Try.prog 49 #[.string t] u fun e w' => e = .returned (.tuple #[.int .i64 (A + 10), .int .i64 b]) ∧ Below u.heap.size u w') (hA : ∀ u : World, Calls Try.prog 56 #[.string t, .int .i64 (A + 10)] u fun e w' => e = .returned (.int .i64 0) ∧ Below u.heap.size u w') (hBb : ∀ u : World, Calls Try.prog 56 #[.string t, .int .i64 b] u fun e w' => e = .returned (.int .i64 0) ∧ Below u.heap.size u w') (hN : ∀ u : World, Calls Try.prog 56 #[.string t, .int .i64 (A + 2)] u fun e w' => e = .returned (.int .i64 n) ∧ Below u.heap.size u w') (hC2 : ∀ u : World, Calls Try.prog 57 #[.string B20] u fun e w' => e = .returned (.int .i64 xx) ∧ Below u.heap.size u w') (h12 : ∀ u : World, Calls Try.prog 59 #[.string t, .int .i64 (A + 12)] u fun e w' => e = .returned (.int .i64 si) ∧ Below u.heap.size u w') (h16 : ∀ u : World, Calls Try.prog 59 #[.string t, .int .i64 (A + 16)] u fun e w' => e = .returned (.int .i64 di) ∧ Below u.heap.size u w') (hH : ∀ u : World, Calls Try.prog 58 #[.int .i64 si, .int .i64 di, .int .i64 17, .int .i64 (n - 20)] u fun e w' => e = .returned (.tuple #[.string H, .bool true]) ∧ Below u.heap.size u w') (hK : ∀ u : World, Calls Try.prog 57 #[.string (H ++ G)] u fun e w' => e = .returned (.int .i64 x) ∧ Below u.heap.size u w') (hW1 : ∀ u : World, Calls Try.prog 51 #[.int .i64 xx] u fun e w' => e = .returned (.string wx) ∧ Below u.heap.size u w') (hP1 : ∀ u : World, Calls Try.prog 50 #[.string t, .int .i64 (A + 10), .string wx] u fun e w' => e = .returned (.string t1) ∧ Below u.heap.size u w') (hW2 : ∀ u : World, Calls Try.prog 51 #[.int .i64 x] u fun e w' => e = .returned (.string wy) ∧ Below u.heap.size u w') (hP2 : ∀ u : World, Calls Try.prog 50 #[.string t1, .int .i64 b, .string wy] u fun e w' => e = .returned (.string t2) ∧ Below u.heap.size u w') (ht : t.size ≤ 1048576) (hsz : A + 46 ≤ (t.size : Int)) (hA2 : 14 ≤ A ∧ A ≤ 18) (hbd2 : 20 ≤ b ∧ b ≤ 54) (r2 : byt t (A + 9).toNat = 17) (hnb : -1 ≤ n ∧ n ≤ 65535) (hlo : b + 2 - A ≤ n) (hhi : n ≤ (t.size : Int) - A) (r6 : t.extract A.toNat (A + 20).toNat = B20) (r8 : t.extract (A + 20).toNat (A + n).toNat = G) (hnz : (G.size : Int) = n - 20) (zH : H.size = 12) (hx0 : ¬ x = 0) (hR : ∀ u : World, Calls Try.prog 60 #[.string t2] u fun e w' => e = .returned (.tuple #[.agg #[.int .i64 p.dmac, .int .i64 p.smac, .int .i64 p.vlan, .int .i64 p.tos, .int .i64 p.id, .int .i64 p.ttl, .int .i64 p.sip, .int .i64 p.dip, .int .i64 p.seg_kind, .int .i64 p.seg_sport, .int .i64 p.seg_dport, .int .i64 p.seg_seq, .int .i64 p.seg_ack, .int .i64 p.seg_flags, .int .i64 p.seg_win, .string p.seg_body], .int .i64 0]) ∧ Below u.heap.size u w') (hT : ∀ u : World, Calls Try.prog 12 #[.agg #[.int .i64 p.dmac, .int .i64 p.smac, .int .i64 p.vlan, .int .i64 p.tos, .int .i64 p.id, .int .i64 p.ttl, .int .i64 p.sip, .int .i64 p.dip, .int .i64 p.seg_kind, .int .i64 p.seg_sport, .int .i64 p.seg_dport, .int .i64 p.seg_seq, .int .i64 p.seg_ack, .int .i64 p.seg_flags, .int .i64 p.seg_win, .string p.seg_body]] u fun e w' => e = .returned (.tuple #[.string tm, .bool true]) ∧ Below u.heap.size u w') (hB : ∀ u : World, Calls Try.prog 48 #[.agg #[.int .i64 p.dmac, .int .i64 p.smac, .int .i64 p.vlan, .int .i64 p.tos, .int .i64 p.id, .int .i64 p.ttl, .int .i64 p.sip, .int .i64 p.dip, .int .i64 p.seg_kind, .int .i64 p.seg_sport, .int .i64 p.seg_dport, .int .i64 p.seg_seq, .int .i64 p.seg_ack, .int .i64 p.seg_flags, .int .i64 p.seg_win, .string p.seg_body]] u fun e w' => e = .returned (.tuple #[.string (imgS p), .bool true]) ∧ Below u.heap.size u w') (he : (tm.toList == t.toList) = true) :
    Calls Try.prog 15 #[.string t] w fun e w' => e = .returned (.tuple #[.string (imgS p), .bool true]) ∧ Below w.heap.size w w' := by
  have x9 := idxi (s := t) (i := A + 9) (k := (A + 9).toNat) (by omega) (by omega)
  have kb := byt_bd t (A + 9).toNat
  simp only [r2] at x9 kb
  have ewk : IntKind.i64.wrap 17 = 17 := IntWalk.i64_in _ ⟨by omega, by omega⟩
  have zHG : (H ++ G).size = 12 + G.size := by rw [ByteArray.size_append, zH]
  have hov : ¬ 9223372036854775807 < 12 + G.size := by omega
  go_enter Try.func15, Try.ntmps15
  go_wp2_with fail
  have k0 : Below w.heap.size w w := by go_grown
  have p0 := k0.size
  refine (hP _).mono ?_
  rintro e w1 ⟨rfl, hb⟩
  have k1 : Below w.heap.size w w1 := ext_step k0 (by omega) hb
  have p1 := hb.size
  clear hb
  go_wp2_with fail
  refine (hA _).mono ?_
  rintro e w2 ⟨rfl, hb⟩
  have k2 : Below w.heap.size w w2 := ext_step k1 (by omega) hb
  have p2 := hb.size
  clear hb
  go_wp2_with fail
  refine (hBb _).mono ?_
  rintro e w3 ⟨rfl, hb⟩
  have k3 : Below w.heap.size w w3 := ext_step k2 (by omega) hb
  have p3 := hb.size
  clear hb
  go_wp2_with fail
  refine (hN _).mono ?_
  rintro e w4 ⟨rfl, hb⟩
  have k4 : Below w.heap.size w w4 := ext_step k3 (by omega) hb
  have p4 := hb.size
  clear hb
  go_wp2_with fail
  refine (hC2 _).mono ?_
  rintro e w5 ⟨rfl, hb⟩
  have k5 : Below w.heap.size w w5 := ext_step k4 (by omega) hb
  have p5 := hb.size
  clear hb
  go_wp2_with fail
  refine (h12 _).mono ?_
  rintro e w6 ⟨rfl, hb⟩
  have k6 : Below w.heap.size w w6 := ext_step k5 (by omega) hb
  have p6 := hb.size
  clear hb
  go_wp2_with fail
  refine (h16 _).mono ?_
  rintro e w7 ⟨rfl, hb⟩
  have k7 : Below w.heap.size w w7 := ext_step k6 (by omega) hb
  have p7 := hb.size
  clear hb
  go_wp2_with fail
  refine (hH _).mono ?_
  rintro e w8 ⟨rfl, hb⟩
  have k8 : Below w.heap.size w w8 := ext_step k7 (by omega) hb
  have p8 := hb.size
  clear hb
  go_wp2_with fail
  refine (hK _).mono ?_
  rintro e w9 ⟨rfl, hb⟩
  have k9 : Below w.heap.size w w9 := ext_step k8 (by omega) hb
  have p9 := hb.size
  clear hb
  go_wp2_with fail
  refine (hW1 _).mono ?_
  rintro e w10 ⟨rfl, hb⟩
  have k10 : Below w.heap.size w w10 := ext_step k9 (by omega) hb
  have p10 := hb.size
  clear hb
  go_wp2_with fail
  refine (hP1 _).mono ?_
  rintro e w11 ⟨rfl, hb⟩
  have k11 : Below w.heap.size w w11 := ext_step k10 (by omega) hb
  have p11 := hb.size
  clear hb
  go_wp2_with fail
  refine (hW2 _).mono ?_
  rintro e w12 ⟨rfl, hb⟩
  have k12 : Below w.heap.size w w12 := ext_step k11 (by omega) hb
  have p12 := hb.size
  clear hb
  go_wp2_with fail
  refine (hP2 _).mono ?_
  rintro e w13 ⟨rfl, hb⟩
  have k13 : Below w.heap.size w w13 := ext_step k12 (by omega) hb
  have p13 := hb.size
  clear hb
  go_wp2_with fail
  refine (hR _).mono ?_
  rintro e w14 ⟨rfl, hb⟩
  have k14 : Below w.heap.size w w14 := ext_step k13 (by omega) hb
  have p14 := hb.size
  clear hb
  go_wp2_with fail
  obtain ⟨w15, hW0⟩ : ∃ W, W = (w14.alloc (.cells #[.int .i64 p.dmac, .int .i64 p.smac, .int .i64 p.vlan, .int .i64 p.tos, .int .i64 p.id, .int .i64 p.ttl, .int .i64 p.sip, .int .i64 p.dip, .int .i64 p.seg_kind, .int .i64 p.seg_sport, .int .i64 p.seg_dport, .int .i64 p.seg_seq, .int .i64 p.seg_ack, .int .i64 p.seg_flags, .int .i64 p.seg_win, .string p.seg_body] 31)) := ⟨_, rfl⟩
  have hb : Below w14.heap.size w14 w15 := by rw [hW0]; go_grown
  have bl0 : w14.heap.size < w15.heap.size := by rw [hW0]; go_size
  have hk0 : Blk w15 (w14.heap.size) 31 [.int .i64 p.dmac, .int .i64 p.smac, .int .i64 p.vlan, .int .i64 p.tos, .int .i64 p.id, .int .i64 p.ttl, .int .i64 p.sip, .int .i64 p.dip, .int .i64 p.seg_kind, .int .i64 p.seg_sport, .int .i64 p.seg_dport, .int .i64 p.seg_seq, .int .i64 p.seg_ack, .int .i64 p.seg_flags, .int .i64 p.seg_win, .string p.seg_body] := by rw [hW0]; exact Blk.new _ _ _
  rw [← hW0]
  clear hW0
  have k15 := ext_step k14 (by omega) hb
  have p15 := hb.size
  clear hb
  refine (hT _).mono ?_
  rintro e w16 ⟨rfl, hb⟩
  have k16 : Below w.heap.size w w16 := ext_step k15 (by omega) hb
  have p16 := hb.size
  replace hk0 := hk0.ext hb
  have bl0 := Nat.lt_of_lt_of_le bl0 hb.size
  clear hb
  have bx0_0 := hk0.at_ 0 _ rfl
  have bx0_1 := hk0.at_ 1 _ rfl
  have bx0_2 := hk0.at_ 2 _ rfl
  have bx0_3 := hk0.at_ 3 _ rfl
  have bx0_4 := hk0.at_ 4 _ rfl
  have bx0_5 := hk0.at_ 5 _ rfl
  have bx0_6 := hk0.at_ 6 _ rfl
  have bx0_7 := hk0.at_ 7 _ rfl
  have bx0_8 := hk0.at_ 8 _ rfl
  have bx0_9 := hk0.at_ 9 _ rfl
  have bx0_10 := hk0.at_ 10 _ rfl
  have bx0_11 := hk0.at_ 11 _ rfl
  have bx0_12 := hk0.at_ 12 _ rfl
  have bx0_13 := hk0.at_ 13 _ rfl
  have bx0_14 := hk0.at_ 14 _ rfl
  have bx0_15 := hk0.at_ 15 _ rfl
  go_wp2_with fail
  refine (hB _).mono ?_
  rintro e w17 ⟨rfl, hb⟩
  have k17 : Below w.heap.size w w17 := ext_step k16 (by omega) hb
  have p17 := hb.size
  replace hk0 := hk0.ext hb
  clear bx0_0 bx0_1 bx0_2 bx0_3 bx0_4 bx0_5 bx0_6 bx0_7 bx0_8 bx0_9 bx0_10 bx0_11 bx0_12 bx0_13 bx0_14 bx0_15
  have bl0 := Nat.lt_of_lt_of_le bl0 hb.size
  clear hb
  go_wp2_with fail
  refine bodyPost_ret (v := .tuple #[.string (imgS p), .bool true]) (by simp [results, Try.results15, go_sem]) rfl ?_
  exact ⟨rfl, k17⟩
set_option maxRecDepth 100000 in
set_option maxHeartbeats 4000000 in
theorem specFS_br0 (t : ByteArray) (w : World) {B20 G H wx wy t1 t2 : ByteArray} {A n b si di x xx c : Int} (hP : ∀ u : World, Calls Try.prog 49 #[.string t] u fun e w' => e = .returned (.tuple #[.int .i64 (A + 10), .int .i64 b]) ∧ Below u.heap.size u w') (hA : ∀ u : World, Calls Try.prog 56 #[.string t, .int .i64 (A + 10)] u fun e w' => e = .returned (.int .i64 0) ∧ Below u.heap.size u w') (hBb : ∀ u : World, Calls Try.prog 56 #[.string t, .int .i64 b] u fun e w' => e = .returned (.int .i64 0) ∧ Below u.heap.size u w') (hN : ∀ u : World, Calls Try.prog 56 #[.string t, .int .i64 (A + 2)] u fun e w' => e = .returned (.int .i64 n) ∧ Below u.heap.size u w') (hC2 : ∀ u : World, Calls Try.prog 57 #[.string B20] u fun e w' => e = .returned (.int .i64 xx) ∧ Below u.heap.size u w') (h12 : ∀ u : World, Calls Try.prog 59 #[.string t, .int .i64 (A + 12)] u fun e w' => e = .returned (.int .i64 si) ∧ Below u.heap.size u w') (h16 : ∀ u : World, Calls Try.prog 59 #[.string t, .int .i64 (A + 16)] u fun e w' => e = .returned (.int .i64 di) ∧ Below u.heap.size u w') (hH : ∀ u : World, Calls Try.prog 58 #[.int .i64 si, .int .i64 di, .int .i64 17, .int .i64 (n - 20)] u fun e w' => e = .returned (.tuple #[.string H, .bool true]) ∧ Below u.heap.size u w') (hK : ∀ u : World, Calls Try.prog 57 #[.string (H ++ G)] u fun e w' => e = .returned (.int .i64 x) ∧ Below u.heap.size u w') (hW1 : ∀ u : World, Calls Try.prog 51 #[.int .i64 xx] u fun e w' => e = .returned (.string wx) ∧ Below u.heap.size u w') (hP1 : ∀ u : World, Calls Try.prog 50 #[.string t, .int .i64 (A + 10), .string wx] u fun e w' => e = .returned (.string t1) ∧ Below u.heap.size u w') (hW2 : ∀ u : World, Calls Try.prog 51 #[.int .i64 x] u fun e w' => e = .returned (.string wy) ∧ Below u.heap.size u w') (hP2 : ∀ u : World, Calls Try.prog 50 #[.string t1, .int .i64 b, .string wy] u fun e w' => e = .returned (.string t2) ∧ Below u.heap.size u w') (ht : t.size ≤ 1048576) (hsz : A + 46 ≤ (t.size : Int)) (hA2 : 14 ≤ A ∧ A ≤ 18) (hbd2 : 20 ≤ b ∧ b ≤ 54) (r2 : byt t (A + 9).toNat = 17) (hnb : -1 ≤ n ∧ n ≤ 65535) (hlo : b + 2 - A ≤ n) (hhi : n ≤ (t.size : Int) - A) (r6 : t.extract A.toNat (A + 20).toNat = B20) (r8 : t.extract (A + 20).toNat (A + n).toNat = G) (hnz : (G.size : Int) = n - 20) (zH : H.size = 12) (hx0 : ¬ x = 0) (hR : ∀ u : World, Calls Try.prog 60 #[.string t2] u fun e w' => e = .returned (.tuple #[.agg #[.int .i64 0, .int .i64 0, .int .i64 0, .int .i64 0, .int .i64 0, .int .i64 0, .int .i64 0, .int .i64 0, .int .i64 0, .int .i64 0, .int .i64 0, .int .i64 0, .int .i64 0, .int .i64 0, .int .i64 0, .string ByteArray.empty], .int .i64 c]) ∧ Below u.heap.size u w') (hc : ¬ c = 0) :
    Calls Try.prog 15 #[.string t] w fun e w' => e = .returned (.tuple #[.string ByteArray.empty, .bool false]) ∧ Below w.heap.size w w' := by
  have x9 := idxi (s := t) (i := A + 9) (k := (A + 9).toNat) (by omega) (by omega)
  have kb := byt_bd t (A + 9).toNat
  simp only [r2] at x9 kb
  have ewk : IntKind.i64.wrap 17 = 17 := IntWalk.i64_in _ ⟨by omega, by omega⟩
  have zHG : (H ++ G).size = 12 + G.size := by rw [ByteArray.size_append, zH]
  have hov : ¬ 9223372036854775807 < 12 + G.size := by omega
  go_enter Try.func15, Try.ntmps15
  go_wp2_with fail
  have k0 : Below w.heap.size w w := by go_grown
  have p0 := k0.size
  refine (hP _).mono ?_
  rintro e w1 ⟨rfl, hb⟩
  have k1 : Below w.heap.size w w1 := ext_step k0 (by omega) hb
  have p1 := hb.size
  clear hb
  go_wp2_with fail
  refine (hA _).mono ?_
  rintro e w2 ⟨rfl, hb⟩
  have k2 : Below w.heap.size w w2 := ext_step k1 (by omega) hb
  have p2 := hb.size
  clear hb
  go_wp2_with fail
  refine (hBb _).mono ?_
  rintro e w3 ⟨rfl, hb⟩
  have k3 : Below w.heap.size w w3 := ext_step k2 (by omega) hb
  have p3 := hb.size
  clear hb
  go_wp2_with fail
  refine (hN _).mono ?_
  rintro e w4 ⟨rfl, hb⟩
  have k4 : Below w.heap.size w w4 := ext_step k3 (by omega) hb
  have p4 := hb.size
  clear hb
  go_wp2_with fail
  refine (hC2 _).mono ?_
  rintro e w5 ⟨rfl, hb⟩
  have k5 : Below w.heap.size w w5 := ext_step k4 (by omega) hb
  have p5 := hb.size
  clear hb
  go_wp2_with fail
  refine (h12 _).mono ?_
  rintro e w6 ⟨rfl, hb⟩
  have k6 : Below w.heap.size w w6 := ext_step k5 (by omega) hb
  have p6 := hb.size
  clear hb
  go_wp2_with fail
  refine (h16 _).mono ?_
  rintro e w7 ⟨rfl, hb⟩
  have k7 : Below w.heap.size w w7 := ext_step k6 (by omega) hb
  have p7 := hb.size
  clear hb
  go_wp2_with fail
  refine (hH _).mono ?_
  rintro e w8 ⟨rfl, hb⟩
  have k8 : Below w.heap.size w w8 := ext_step k7 (by omega) hb
  have p8 := hb.size
  clear hb
  go_wp2_with fail
  refine (hK _).mono ?_
  rintro e w9 ⟨rfl, hb⟩
  have k9 : Below w.heap.size w w9 := ext_step k8 (by omega) hb
  have p9 := hb.size
  clear hb
  go_wp2_with fail
  refine (hW1 _).mono ?_
  rintro e w10 ⟨rfl, hb⟩
  have k10 : Below w.heap.size w w10 := ext_step k9 (by omega) hb
  have p10 := hb.size
  clear hb
  go_wp2_with fail
  refine (hP1 _).mono ?_
  rintro e w11 ⟨rfl, hb⟩
  have k11 : Below w.heap.size w w11 := ext_step k10 (by omega) hb
  have p11 := hb.size
  clear hb
  go_wp2_with fail
  refine (hW2 _).mono ?_
  rintro e w12 ⟨rfl, hb⟩
  have k12 : Below w.heap.size w w12 := ext_step k11 (by omega) hb
  have p12 := hb.size
  clear hb
  go_wp2_with fail
  refine (hP2 _).mono ?_
  rintro e w13 ⟨rfl, hb⟩
  have k13 : Below w.heap.size w w13 := ext_step k12 (by omega) hb
  have p13 := hb.size
  clear hb
  go_wp2_with fail
  refine (hR _).mono ?_
  rintro e w14 ⟨rfl, hb⟩
  have k14 : Below w.heap.size w w14 := ext_step k13 (by omega) hb
  have p14 := hb.size
  clear hb
  go_wp2_with fail
  obtain ⟨w15, hW0⟩ : ∃ W, W = (w14.alloc (.cells #[.int .i64 0, .int .i64 0, .int .i64 0, .int .i64 0, .int .i64 0, .int .i64 0, .int .i64 0, .int .i64 0, .int .i64 0, .int .i64 0, .int .i64 0, .int .i64 0, .int .i64 0, .int .i64 0, .int .i64 0, .string ByteArray.empty] 31)) := ⟨_, rfl⟩
  have hb : Below w14.heap.size w14 w15 := by rw [hW0]; go_grown
  have bl0 : w14.heap.size < w15.heap.size := by rw [hW0]; go_size
  have hk0 : Blk w15 (w14.heap.size) 31 [.int .i64 0, .int .i64 0, .int .i64 0, .int .i64 0, .int .i64 0, .int .i64 0, .int .i64 0, .int .i64 0, .int .i64 0, .int .i64 0, .int .i64 0, .int .i64 0, .int .i64 0, .int .i64 0, .int .i64 0, .string ByteArray.empty] := by rw [hW0]; exact Blk.new _ _ _
  rw [← hW0]
  clear hW0
  have k15 := ext_step k14 (by omega) hb
  have p15 := hb.size
  clear hb
  clear  hk0
  refine bodyPost_ret (v := .tuple #[.string ByteArray.empty, .bool false]) (by simp [results, Try.results15, go_sem]; rfl) rfl ?_
  exact ⟨rfl, k15⟩
set_option maxRecDepth 100000 in
set_option maxHeartbeats 4000000 in
theorem specFS_dtn (t : ByteArray) (w : World) {B20 G H wx wy t1 t2 tm : ByteArray} {A n b kd si di xx : Int} {p : Packet} (hP : ∀ u : World, Calls Try.prog 49 #[.string t] u fun e w' => e = .returned (.tuple #[.int .i64 (A + 10), .int .i64 b]) ∧ Below u.heap.size u w') (hA : ∀ u : World, Calls Try.prog 56 #[.string t, .int .i64 (A + 10)] u fun e w' => e = .returned (.int .i64 0) ∧ Below u.heap.size u w') (hBb : ∀ u : World, Calls Try.prog 56 #[.string t, .int .i64 b] u fun e w' => e = .returned (.int .i64 0) ∧ Below u.heap.size u w') (hN : ∀ u : World, Calls Try.prog 56 #[.string t, .int .i64 (A + 2)] u fun e w' => e = .returned (.int .i64 n) ∧ Below u.heap.size u w') (hC2 : ∀ u : World, Calls Try.prog 57 #[.string B20] u fun e w' => e = .returned (.int .i64 xx) ∧ Below u.heap.size u w') (h12 : ∀ u : World, Calls Try.prog 59 #[.string t, .int .i64 (A + 12)] u fun e w' => e = .returned (.int .i64 si) ∧ Below u.heap.size u w') (h16 : ∀ u : World, Calls Try.prog 59 #[.string t, .int .i64 (A + 16)] u fun e w' => e = .returned (.int .i64 di) ∧ Below u.heap.size u w') (hH : ∀ u : World, Calls Try.prog 58 #[.int .i64 si, .int .i64 di, .int .i64 kd, .int .i64 (n - 20)] u fun e w' => e = .returned (.tuple #[.string H, .bool true]) ∧ Below u.heap.size u w') (hK : ∀ u : World, Calls Try.prog 57 #[.string (H ++ G)] u fun e w' => e = .returned (.int .i64 0) ∧ Below u.heap.size u w') (hW1 : ∀ u : World, Calls Try.prog 51 #[.int .i64 xx] u fun e w' => e = .returned (.string wx) ∧ Below u.heap.size u w') (hP1 : ∀ u : World, Calls Try.prog 50 #[.string t, .int .i64 (A + 10), .string wx] u fun e w' => e = .returned (.string t1) ∧ Below u.heap.size u w') (hW2 : ∀ u : World, Calls Try.prog 51 #[.int .i64 0] u fun e w' => e = .returned (.string wy) ∧ Below u.heap.size u w') (hP2 : ∀ u : World, Calls Try.prog 50 #[.string t1, .int .i64 b, .string wy] u fun e w' => e = .returned (.string t2) ∧ Below u.heap.size u w') (ht : t.size ≤ 1048576) (hsz : A + 46 ≤ (t.size : Int)) (hA2 : 14 ≤ A ∧ A ≤ 18) (hbd2 : 20 ≤ b ∧ b ≤ 54) (r2 : byt t (A + 9).toNat = kd) (hnb : -1 ≤ n ∧ n ≤ 65535) (hlo : b + 2 - A ≤ n) (hhi : n ≤ (t.size : Int) - A) (r6 : t.extract A.toNat (A + 20).toNat = B20) (r8 : t.extract (A + 20).toNat (A + n).toNat = G) (hnz : (G.size : Int) = n - 20) (zH : H.size = 12) (h17 : ¬ kd = 17) (hR : ∀ u : World, Calls Try.prog 60 #[.string t2] u fun e w' => e = .returned (.tuple #[.agg #[.int .i64 p.dmac, .int .i64 p.smac, .int .i64 p.vlan, .int .i64 p.tos, .int .i64 p.id, .int .i64 p.ttl, .int .i64 p.sip, .int .i64 p.dip, .int .i64 p.seg_kind, .int .i64 p.seg_sport, .int .i64 p.seg_dport, .int .i64 p.seg_seq, .int .i64 p.seg_ack, .int .i64 p.seg_flags, .int .i64 p.seg_win, .string p.seg_body], .int .i64 0]) ∧ Below u.heap.size u w') (hT : ∀ u : World, Calls Try.prog 12 #[.agg #[.int .i64 p.dmac, .int .i64 p.smac, .int .i64 p.vlan, .int .i64 p.tos, .int .i64 p.id, .int .i64 p.ttl, .int .i64 p.sip, .int .i64 p.dip, .int .i64 p.seg_kind, .int .i64 p.seg_sport, .int .i64 p.seg_dport, .int .i64 p.seg_seq, .int .i64 p.seg_ack, .int .i64 p.seg_flags, .int .i64 p.seg_win, .string p.seg_body]] u fun e w' => e = .returned (.tuple #[.string tm, .bool true]) ∧ Below u.heap.size u w') (he : (tm.toList == t.toList) = false) :
    Calls Try.prog 15 #[.string t] w fun e w' => e = .returned (.tuple #[.string ByteArray.empty, .bool false]) ∧ Below w.heap.size w w' := by
  have x9 := idxi (s := t) (i := A + 9) (k := (A + 9).toNat) (by omega) (by omega)
  have kb := byt_bd t (A + 9).toNat
  simp only [r2] at x9 kb
  have ewk : IntKind.i64.wrap kd = kd := IntWalk.i64_in _ ⟨by omega, by omega⟩
  have zHG : (H ++ G).size = 12 + G.size := by rw [ByteArray.size_append, zH]
  have hov : ¬ 9223372036854775807 < 12 + G.size := by omega
  go_enter Try.func15, Try.ntmps15
  go_wp2_with fail
  have k0 : Below w.heap.size w w := by go_grown
  have p0 := k0.size
  refine (hP _).mono ?_
  rintro e w1 ⟨rfl, hb⟩
  have k1 : Below w.heap.size w w1 := ext_step k0 (by omega) hb
  have p1 := hb.size
  clear hb
  go_wp2_with fail
  refine (hA _).mono ?_
  rintro e w2 ⟨rfl, hb⟩
  have k2 : Below w.heap.size w w2 := ext_step k1 (by omega) hb
  have p2 := hb.size
  clear hb
  go_wp2_with fail
  refine (hBb _).mono ?_
  rintro e w3 ⟨rfl, hb⟩
  have k3 : Below w.heap.size w w3 := ext_step k2 (by omega) hb
  have p3 := hb.size
  clear hb
  go_wp2_with fail
  refine (hN _).mono ?_
  rintro e w4 ⟨rfl, hb⟩
  have k4 : Below w.heap.size w w4 := ext_step k3 (by omega) hb
  have p4 := hb.size
  clear hb
  go_wp2_with fail
  refine (hC2 _).mono ?_
  rintro e w5 ⟨rfl, hb⟩
  have k5 : Below w.heap.size w w5 := ext_step k4 (by omega) hb
  have p5 := hb.size
  clear hb
  go_wp2_with fail
  refine (h12 _).mono ?_
  rintro e w6 ⟨rfl, hb⟩
  have k6 : Below w.heap.size w w6 := ext_step k5 (by omega) hb
  have p6 := hb.size
  clear hb
  go_wp2_with fail
  refine (h16 _).mono ?_
  rintro e w7 ⟨rfl, hb⟩
  have k7 : Below w.heap.size w w7 := ext_step k6 (by omega) hb
  have p7 := hb.size
  clear hb
  go_wp2_with fail
  refine (hH _).mono ?_
  rintro e w8 ⟨rfl, hb⟩
  have k8 : Below w.heap.size w w8 := ext_step k7 (by omega) hb
  have p8 := hb.size
  clear hb
  go_wp2_with fail
  refine (hK _).mono ?_
  rintro e w9 ⟨rfl, hb⟩
  have k9 : Below w.heap.size w w9 := ext_step k8 (by omega) hb
  have p9 := hb.size
  clear hb
  go_wp2_with fail
  refine (hW1 _).mono ?_
  rintro e w10 ⟨rfl, hb⟩
  have k10 : Below w.heap.size w w10 := ext_step k9 (by omega) hb
  have p10 := hb.size
  clear hb
  go_wp2_with fail
  refine (hP1 _).mono ?_
  rintro e w11 ⟨rfl, hb⟩
  have k11 : Below w.heap.size w w11 := ext_step k10 (by omega) hb
  have p11 := hb.size
  clear hb
  go_wp2_with fail
  refine (hW2 _).mono ?_
  rintro e w12 ⟨rfl, hb⟩
  have k12 : Below w.heap.size w w12 := ext_step k11 (by omega) hb
  have p12 := hb.size
  clear hb
  go_wp2_with fail
  refine (hP2 _).mono ?_
  rintro e w13 ⟨rfl, hb⟩
  have k13 : Below w.heap.size w w13 := ext_step k12 (by omega) hb
  have p13 := hb.size
  clear hb
  go_wp2_with fail
  refine (hR _).mono ?_
  rintro e w14 ⟨rfl, hb⟩
  have k14 : Below w.heap.size w w14 := ext_step k13 (by omega) hb
  have p14 := hb.size
  clear hb
  go_wp2_with fail
  obtain ⟨w15, hW0⟩ : ∃ W, W = (w14.alloc (.cells #[.int .i64 p.dmac, .int .i64 p.smac, .int .i64 p.vlan, .int .i64 p.tos, .int .i64 p.id, .int .i64 p.ttl, .int .i64 p.sip, .int .i64 p.dip, .int .i64 p.seg_kind, .int .i64 p.seg_sport, .int .i64 p.seg_dport, .int .i64 p.seg_seq, .int .i64 p.seg_ack, .int .i64 p.seg_flags, .int .i64 p.seg_win, .string p.seg_body] 31)) := ⟨_, rfl⟩
  have hb : Below w14.heap.size w14 w15 := by rw [hW0]; go_grown
  have bl0 : w14.heap.size < w15.heap.size := by rw [hW0]; go_size
  have hk0 : Blk w15 (w14.heap.size) 31 [.int .i64 p.dmac, .int .i64 p.smac, .int .i64 p.vlan, .int .i64 p.tos, .int .i64 p.id, .int .i64 p.ttl, .int .i64 p.sip, .int .i64 p.dip, .int .i64 p.seg_kind, .int .i64 p.seg_sport, .int .i64 p.seg_dport, .int .i64 p.seg_seq, .int .i64 p.seg_ack, .int .i64 p.seg_flags, .int .i64 p.seg_win, .string p.seg_body] := by rw [hW0]; exact Blk.new _ _ _
  rw [← hW0]
  clear hW0
  have k15 := ext_step k14 (by omega) hb
  have p15 := hb.size
  clear hb
  refine (hT _).mono ?_
  rintro e w16 ⟨rfl, hb⟩
  have k16 : Below w.heap.size w w16 := ext_step k15 (by omega) hb
  have p16 := hb.size
  replace hk0 := hk0.ext hb
  have bl0 := Nat.lt_of_lt_of_le bl0 hb.size
  clear hb
  clear  hk0
  go_wp2_with fail
  refine bodyPost_ret (v := .tuple #[.string ByteArray.empty, .bool false]) (by simp [results, Try.results15, go_sem]; rfl) rfl ?_
  exact ⟨rfl, k16⟩
set_option maxRecDepth 100000 in
set_option maxHeartbeats 4000000 in
theorem specFS_dok (t : ByteArray) (w : World) {B20 G H wx wy t1 t2 tm : ByteArray} {A n b kd si di xx : Int} {p : Packet} (hP : ∀ u : World, Calls Try.prog 49 #[.string t] u fun e w' => e = .returned (.tuple #[.int .i64 (A + 10), .int .i64 b]) ∧ Below u.heap.size u w') (hA : ∀ u : World, Calls Try.prog 56 #[.string t, .int .i64 (A + 10)] u fun e w' => e = .returned (.int .i64 0) ∧ Below u.heap.size u w') (hBb : ∀ u : World, Calls Try.prog 56 #[.string t, .int .i64 b] u fun e w' => e = .returned (.int .i64 0) ∧ Below u.heap.size u w') (hN : ∀ u : World, Calls Try.prog 56 #[.string t, .int .i64 (A + 2)] u fun e w' => e = .returned (.int .i64 n) ∧ Below u.heap.size u w') (hC2 : ∀ u : World, Calls Try.prog 57 #[.string B20] u fun e w' => e = .returned (.int .i64 xx) ∧ Below u.heap.size u w') (h12 : ∀ u : World, Calls Try.prog 59 #[.string t, .int .i64 (A + 12)] u fun e w' => e = .returned (.int .i64 si) ∧ Below u.heap.size u w') (h16 : ∀ u : World, Calls Try.prog 59 #[.string t, .int .i64 (A + 16)] u fun e w' => e = .returned (.int .i64 di) ∧ Below u.heap.size u w') (hH : ∀ u : World, Calls Try.prog 58 #[.int .i64 si, .int .i64 di, .int .i64 kd, .int .i64 (n - 20)] u fun e w' => e = .returned (.tuple #[.string H, .bool true]) ∧ Below u.heap.size u w') (hK : ∀ u : World, Calls Try.prog 57 #[.string (H ++ G)] u fun e w' => e = .returned (.int .i64 0) ∧ Below u.heap.size u w') (hW1 : ∀ u : World, Calls Try.prog 51 #[.int .i64 xx] u fun e w' => e = .returned (.string wx) ∧ Below u.heap.size u w') (hP1 : ∀ u : World, Calls Try.prog 50 #[.string t, .int .i64 (A + 10), .string wx] u fun e w' => e = .returned (.string t1) ∧ Below u.heap.size u w') (hW2 : ∀ u : World, Calls Try.prog 51 #[.int .i64 0] u fun e w' => e = .returned (.string wy) ∧ Below u.heap.size u w') (hP2 : ∀ u : World, Calls Try.prog 50 #[.string t1, .int .i64 b, .string wy] u fun e w' => e = .returned (.string t2) ∧ Below u.heap.size u w') (ht : t.size ≤ 1048576) (hsz : A + 46 ≤ (t.size : Int)) (hA2 : 14 ≤ A ∧ A ≤ 18) (hbd2 : 20 ≤ b ∧ b ≤ 54) (r2 : byt t (A + 9).toNat = kd) (hnb : -1 ≤ n ∧ n ≤ 65535) (hlo : b + 2 - A ≤ n) (hhi : n ≤ (t.size : Int) - A) (r6 : t.extract A.toNat (A + 20).toNat = B20) (r8 : t.extract (A + 20).toNat (A + n).toNat = G) (hnz : (G.size : Int) = n - 20) (zH : H.size = 12) (h17 : ¬ kd = 17) (hR : ∀ u : World, Calls Try.prog 60 #[.string t2] u fun e w' => e = .returned (.tuple #[.agg #[.int .i64 p.dmac, .int .i64 p.smac, .int .i64 p.vlan, .int .i64 p.tos, .int .i64 p.id, .int .i64 p.ttl, .int .i64 p.sip, .int .i64 p.dip, .int .i64 p.seg_kind, .int .i64 p.seg_sport, .int .i64 p.seg_dport, .int .i64 p.seg_seq, .int .i64 p.seg_ack, .int .i64 p.seg_flags, .int .i64 p.seg_win, .string p.seg_body], .int .i64 0]) ∧ Below u.heap.size u w') (hT : ∀ u : World, Calls Try.prog 12 #[.agg #[.int .i64 p.dmac, .int .i64 p.smac, .int .i64 p.vlan, .int .i64 p.tos, .int .i64 p.id, .int .i64 p.ttl, .int .i64 p.sip, .int .i64 p.dip, .int .i64 p.seg_kind, .int .i64 p.seg_sport, .int .i64 p.seg_dport, .int .i64 p.seg_seq, .int .i64 p.seg_ack, .int .i64 p.seg_flags, .int .i64 p.seg_win, .string p.seg_body]] u fun e w' => e = .returned (.tuple #[.string tm, .bool true]) ∧ Below u.heap.size u w') (hB : ∀ u : World, Calls Try.prog 48 #[.agg #[.int .i64 p.dmac, .int .i64 p.smac, .int .i64 p.vlan, .int .i64 p.tos, .int .i64 p.id, .int .i64 p.ttl, .int .i64 p.sip, .int .i64 p.dip, .int .i64 p.seg_kind, .int .i64 p.seg_sport, .int .i64 p.seg_dport, .int .i64 p.seg_seq, .int .i64 p.seg_ack, .int .i64 p.seg_flags, .int .i64 p.seg_win, .string p.seg_body]] u fun e w' => e = .returned (.tuple #[.string (imgS p), .bool true]) ∧ Below u.heap.size u w') (he : (tm.toList == t.toList) = true) :
    Calls Try.prog 15 #[.string t] w fun e w' => e = .returned (.tuple #[.string (imgS p), .bool true]) ∧ Below w.heap.size w w' := by
  have x9 := idxi (s := t) (i := A + 9) (k := (A + 9).toNat) (by omega) (by omega)
  have kb := byt_bd t (A + 9).toNat
  simp only [r2] at x9 kb
  have ewk : IntKind.i64.wrap kd = kd := IntWalk.i64_in _ ⟨by omega, by omega⟩
  have zHG : (H ++ G).size = 12 + G.size := by rw [ByteArray.size_append, zH]
  have hov : ¬ 9223372036854775807 < 12 + G.size := by omega
  go_enter Try.func15, Try.ntmps15
  go_wp2_with fail
  have k0 : Below w.heap.size w w := by go_grown
  have p0 := k0.size
  refine (hP _).mono ?_
  rintro e w1 ⟨rfl, hb⟩
  have k1 : Below w.heap.size w w1 := ext_step k0 (by omega) hb
  have p1 := hb.size
  clear hb
  go_wp2_with fail
  refine (hA _).mono ?_
  rintro e w2 ⟨rfl, hb⟩
  have k2 : Below w.heap.size w w2 := ext_step k1 (by omega) hb
  have p2 := hb.size
  clear hb
  go_wp2_with fail
  refine (hBb _).mono ?_
  rintro e w3 ⟨rfl, hb⟩
  have k3 : Below w.heap.size w w3 := ext_step k2 (by omega) hb
  have p3 := hb.size
  clear hb
  go_wp2_with fail
  refine (hN _).mono ?_
  rintro e w4 ⟨rfl, hb⟩
  have k4 : Below w.heap.size w w4 := ext_step k3 (by omega) hb
  have p4 := hb.size
  clear hb
  go_wp2_with fail
  refine (hC2 _).mono ?_
  rintro e w5 ⟨rfl, hb⟩
  have k5 : Below w.heap.size w w5 := ext_step k4 (by omega) hb
  have p5 := hb.size
  clear hb
  go_wp2_with fail
  refine (h12 _).mono ?_
  rintro e w6 ⟨rfl, hb⟩
  have k6 : Below w.heap.size w w6 := ext_step k5 (by omega) hb
  have p6 := hb.size
  clear hb
  go_wp2_with fail
  refine (h16 _).mono ?_
  rintro e w7 ⟨rfl, hb⟩
  have k7 : Below w.heap.size w w7 := ext_step k6 (by omega) hb
  have p7 := hb.size
  clear hb
  go_wp2_with fail
  refine (hH _).mono ?_
  rintro e w8 ⟨rfl, hb⟩
  have k8 : Below w.heap.size w w8 := ext_step k7 (by omega) hb
  have p8 := hb.size
  clear hb
  go_wp2_with fail
  refine (hK _).mono ?_
  rintro e w9 ⟨rfl, hb⟩
  have k9 : Below w.heap.size w w9 := ext_step k8 (by omega) hb
  have p9 := hb.size
  clear hb
  go_wp2_with fail
  refine (hW1 _).mono ?_
  rintro e w10 ⟨rfl, hb⟩
  have k10 : Below w.heap.size w w10 := ext_step k9 (by omega) hb
  have p10 := hb.size
  clear hb
  go_wp2_with fail
  refine (hP1 _).mono ?_
  rintro e w11 ⟨rfl, hb⟩
  have k11 : Below w.heap.size w w11 := ext_step k10 (by omega) hb
  have p11 := hb.size
  clear hb
  go_wp2_with fail
  refine (hW2 _).mono ?_
  rintro e w12 ⟨rfl, hb⟩
  have k12 : Below w.heap.size w w12 := ext_step k11 (by omega) hb
  have p12 := hb.size
  clear hb
  go_wp2_with fail
  refine (hP2 _).mono ?_
  rintro e w13 ⟨rfl, hb⟩
  have k13 : Below w.heap.size w w13 := ext_step k12 (by omega) hb
  have p13 := hb.size
  clear hb
  go_wp2_with fail
  refine (hR _).mono ?_
  rintro e w14 ⟨rfl, hb⟩
  have k14 : Below w.heap.size w w14 := ext_step k13 (by omega) hb
  have p14 := hb.size
  clear hb
  go_wp2_with fail
  obtain ⟨w15, hW0⟩ : ∃ W, W = (w14.alloc (.cells #[.int .i64 p.dmac, .int .i64 p.smac, .int .i64 p.vlan, .int .i64 p.tos, .int .i64 p.id, .int .i64 p.ttl, .int .i64 p.sip, .int .i64 p.dip, .int .i64 p.seg_kind, .int .i64 p.seg_sport, .int .i64 p.seg_dport, .int .i64 p.seg_seq, .int .i64 p.seg_ack, .int .i64 p.seg_flags, .int .i64 p.seg_win, .string p.seg_body] 31)) := ⟨_, rfl⟩
  have hb : Below w14.heap.size w14 w15 := by rw [hW0]; go_grown
  have bl0 : w14.heap.size < w15.heap.size := by rw [hW0]; go_size
  have hk0 : Blk w15 (w14.heap.size) 31 [.int .i64 p.dmac, .int .i64 p.smac, .int .i64 p.vlan, .int .i64 p.tos, .int .i64 p.id, .int .i64 p.ttl, .int .i64 p.sip, .int .i64 p.dip, .int .i64 p.seg_kind, .int .i64 p.seg_sport, .int .i64 p.seg_dport, .int .i64 p.seg_seq, .int .i64 p.seg_ack, .int .i64 p.seg_flags, .int .i64 p.seg_win, .string p.seg_body] := by rw [hW0]; exact Blk.new _ _ _
  rw [← hW0]
  clear hW0
  have k15 := ext_step k14 (by omega) hb
  have p15 := hb.size
  clear hb
  refine (hT _).mono ?_
  rintro e w16 ⟨rfl, hb⟩
  have k16 : Below w.heap.size w w16 := ext_step k15 (by omega) hb
  have p16 := hb.size
  replace hk0 := hk0.ext hb
  have bl0 := Nat.lt_of_lt_of_le bl0 hb.size
  clear hb
  have bx0_0 := hk0.at_ 0 _ rfl
  have bx0_1 := hk0.at_ 1 _ rfl
  have bx0_2 := hk0.at_ 2 _ rfl
  have bx0_3 := hk0.at_ 3 _ rfl
  have bx0_4 := hk0.at_ 4 _ rfl
  have bx0_5 := hk0.at_ 5 _ rfl
  have bx0_6 := hk0.at_ 6 _ rfl
  have bx0_7 := hk0.at_ 7 _ rfl
  have bx0_8 := hk0.at_ 8 _ rfl
  have bx0_9 := hk0.at_ 9 _ rfl
  have bx0_10 := hk0.at_ 10 _ rfl
  have bx0_11 := hk0.at_ 11 _ rfl
  have bx0_12 := hk0.at_ 12 _ rfl
  have bx0_13 := hk0.at_ 13 _ rfl
  have bx0_14 := hk0.at_ 14 _ rfl
  have bx0_15 := hk0.at_ 15 _ rfl
  go_wp2_with fail
  refine (hB _).mono ?_
  rintro e w17 ⟨rfl, hb⟩
  have k17 : Below w.heap.size w w17 := ext_step k16 (by omega) hb
  have p17 := hb.size
  replace hk0 := hk0.ext hb
  clear bx0_0 bx0_1 bx0_2 bx0_3 bx0_4 bx0_5 bx0_6 bx0_7 bx0_8 bx0_9 bx0_10 bx0_11 bx0_12 bx0_13 bx0_14 bx0_15
  have bl0 := Nat.lt_of_lt_of_le bl0 hb.size
  clear hb
  go_wp2_with fail
  refine bodyPost_ret (v := .tuple #[.string (imgS p), .bool true]) (by simp [results, Try.results15, go_sem]) rfl ?_
  exact ⟨rfl, k17⟩
set_option maxRecDepth 100000 in
set_option maxHeartbeats 4000000 in
theorem specFS_dr0 (t : ByteArray) (w : World) {B20 G H wx wy t1 t2 : ByteArray} {A n b kd si di xx c : Int} (hP : ∀ u : World, Calls Try.prog 49 #[.string t] u fun e w' => e = .returned (.tuple #[.int .i64 (A + 10), .int .i64 b]) ∧ Below u.heap.size u w') (hA : ∀ u : World, Calls Try.prog 56 #[.string t, .int .i64 (A + 10)] u fun e w' => e = .returned (.int .i64 0) ∧ Below u.heap.size u w') (hBb : ∀ u : World, Calls Try.prog 56 #[.string t, .int .i64 b] u fun e w' => e = .returned (.int .i64 0) ∧ Below u.heap.size u w') (hN : ∀ u : World, Calls Try.prog 56 #[.string t, .int .i64 (A + 2)] u fun e w' => e = .returned (.int .i64 n) ∧ Below u.heap.size u w') (hC2 : ∀ u : World, Calls Try.prog 57 #[.string B20] u fun e w' => e = .returned (.int .i64 xx) ∧ Below u.heap.size u w') (h12 : ∀ u : World, Calls Try.prog 59 #[.string t, .int .i64 (A + 12)] u fun e w' => e = .returned (.int .i64 si) ∧ Below u.heap.size u w') (h16 : ∀ u : World, Calls Try.prog 59 #[.string t, .int .i64 (A + 16)] u fun e w' => e = .returned (.int .i64 di) ∧ Below u.heap.size u w') (hH : ∀ u : World, Calls Try.prog 58 #[.int .i64 si, .int .i64 di, .int .i64 kd, .int .i64 (n - 20)] u fun e w' => e = .returned (.tuple #[.string H, .bool true]) ∧ Below u.heap.size u w') (hK : ∀ u : World, Calls Try.prog 57 #[.string (H ++ G)] u fun e w' => e = .returned (.int .i64 0) ∧ Below u.heap.size u w') (hW1 : ∀ u : World, Calls Try.prog 51 #[.int .i64 xx] u fun e w' => e = .returned (.string wx) ∧ Below u.heap.size u w') (hP1 : ∀ u : World, Calls Try.prog 50 #[.string t, .int .i64 (A + 10), .string wx] u fun e w' => e = .returned (.string t1) ∧ Below u.heap.size u w') (hW2 : ∀ u : World, Calls Try.prog 51 #[.int .i64 0] u fun e w' => e = .returned (.string wy) ∧ Below u.heap.size u w') (hP2 : ∀ u : World, Calls Try.prog 50 #[.string t1, .int .i64 b, .string wy] u fun e w' => e = .returned (.string t2) ∧ Below u.heap.size u w') (ht : t.size ≤ 1048576) (hsz : A + 46 ≤ (t.size : Int)) (hA2 : 14 ≤ A ∧ A ≤ 18) (hbd2 : 20 ≤ b ∧ b ≤ 54) (r2 : byt t (A + 9).toNat = kd) (hnb : -1 ≤ n ∧ n ≤ 65535) (hlo : b + 2 - A ≤ n) (hhi : n ≤ (t.size : Int) - A) (r6 : t.extract A.toNat (A + 20).toNat = B20) (r8 : t.extract (A + 20).toNat (A + n).toNat = G) (hnz : (G.size : Int) = n - 20) (zH : H.size = 12) (h17 : ¬ kd = 17) (hR : ∀ u : World, Calls Try.prog 60 #[.string t2] u fun e w' => e = .returned (.tuple #[.agg #[.int .i64 0, .int .i64 0, .int .i64 0, .int .i64 0, .int .i64 0, .int .i64 0, .int .i64 0, .int .i64 0, .int .i64 0, .int .i64 0, .int .i64 0, .int .i64 0, .int .i64 0, .int .i64 0, .int .i64 0, .string ByteArray.empty], .int .i64 c]) ∧ Below u.heap.size u w') (hc : ¬ c = 0) :
    Calls Try.prog 15 #[.string t] w fun e w' => e = .returned (.tuple #[.string ByteArray.empty, .bool false]) ∧ Below w.heap.size w w' := by
  have x9 := idxi (s := t) (i := A + 9) (k := (A + 9).toNat) (by omega) (by omega)
  have kb := byt_bd t (A + 9).toNat
  simp only [r2] at x9 kb
  have ewk : IntKind.i64.wrap kd = kd := IntWalk.i64_in _ ⟨by omega, by omega⟩
  have zHG : (H ++ G).size = 12 + G.size := by rw [ByteArray.size_append, zH]
  have hov : ¬ 9223372036854775807 < 12 + G.size := by omega
  go_enter Try.func15, Try.ntmps15
  go_wp2_with fail
  have k0 : Below w.heap.size w w := by go_grown
  have p0 := k0.size
  refine (hP _).mono ?_
  rintro e w1 ⟨rfl, hb⟩
  have k1 : Below w.heap.size w w1 := ext_step k0 (by omega) hb
  have p1 := hb.size
  clear hb
  go_wp2_with fail
  refine (hA _).mono ?_
  rintro e w2 ⟨rfl, hb⟩
  have k2 : Below w.heap.size w w2 := ext_step k1 (by omega) hb
  have p2 := hb.size
  clear hb
  go_wp2_with fail
  refine (hBb _).mono ?_
  rintro e w3 ⟨rfl, hb⟩
  have k3 : Below w.heap.size w w3 := ext_step k2 (by omega) hb
  have p3 := hb.size
  clear hb
  go_wp2_with fail
  refine (hN _).mono ?_
  rintro e w4 ⟨rfl, hb⟩
  have k4 : Below w.heap.size w w4 := ext_step k3 (by omega) hb
  have p4 := hb.size
  clear hb
  go_wp2_with fail
  refine (hC2 _).mono ?_
  rintro e w5 ⟨rfl, hb⟩
  have k5 : Below w.heap.size w w5 := ext_step k4 (by omega) hb
  have p5 := hb.size
  clear hb
  go_wp2_with fail
  refine (h12 _).mono ?_
  rintro e w6 ⟨rfl, hb⟩
  have k6 : Below w.heap.size w w6 := ext_step k5 (by omega) hb
  have p6 := hb.size
  clear hb
  go_wp2_with fail
  refine (h16 _).mono ?_
  rintro e w7 ⟨rfl, hb⟩
  have k7 : Below w.heap.size w w7 := ext_step k6 (by omega) hb
  have p7 := hb.size
  clear hb
  go_wp2_with fail
  refine (hH _).mono ?_
  rintro e w8 ⟨rfl, hb⟩
  have k8 : Below w.heap.size w w8 := ext_step k7 (by omega) hb
  have p8 := hb.size
  clear hb
  go_wp2_with fail
  refine (hK _).mono ?_
  rintro e w9 ⟨rfl, hb⟩
  have k9 : Below w.heap.size w w9 := ext_step k8 (by omega) hb
  have p9 := hb.size
  clear hb
  go_wp2_with fail
  refine (hW1 _).mono ?_
  rintro e w10 ⟨rfl, hb⟩
  have k10 : Below w.heap.size w w10 := ext_step k9 (by omega) hb
  have p10 := hb.size
  clear hb
  go_wp2_with fail
  refine (hP1 _).mono ?_
  rintro e w11 ⟨rfl, hb⟩
  have k11 : Below w.heap.size w w11 := ext_step k10 (by omega) hb
  have p11 := hb.size
  clear hb
  go_wp2_with fail
  refine (hW2 _).mono ?_
  rintro e w12 ⟨rfl, hb⟩
  have k12 : Below w.heap.size w w12 := ext_step k11 (by omega) hb
  have p12 := hb.size
  clear hb
  go_wp2_with fail
  refine (hP2 _).mono ?_
  rintro e w13 ⟨rfl, hb⟩
  have k13 : Below w.heap.size w w13 := ext_step k12 (by omega) hb
  have p13 := hb.size
  clear hb
  go_wp2_with fail
  refine (hR _).mono ?_
  rintro e w14 ⟨rfl, hb⟩
  have k14 : Below w.heap.size w w14 := ext_step k13 (by omega) hb
  have p14 := hb.size
  clear hb
  go_wp2_with fail
  obtain ⟨w15, hW0⟩ : ∃ W, W = (w14.alloc (.cells #[.int .i64 0, .int .i64 0, .int .i64 0, .int .i64 0, .int .i64 0, .int .i64 0, .int .i64 0, .int .i64 0, .int .i64 0, .int .i64 0, .int .i64 0, .int .i64 0, .int .i64 0, .int .i64 0, .int .i64 0, .string ByteArray.empty] 31)) := ⟨_, rfl⟩
  have hb : Below w14.heap.size w14 w15 := by rw [hW0]; go_grown
  have bl0 : w14.heap.size < w15.heap.size := by rw [hW0]; go_size
  have hk0 : Blk w15 (w14.heap.size) 31 [.int .i64 0, .int .i64 0, .int .i64 0, .int .i64 0, .int .i64 0, .int .i64 0, .int .i64 0, .int .i64 0, .int .i64 0, .int .i64 0, .int .i64 0, .int .i64 0, .int .i64 0, .int .i64 0, .int .i64 0, .string ByteArray.empty] := by rw [hW0]; exact Blk.new _ _ _
  rw [← hW0]
  clear hW0
  have k15 := ext_step k14 (by omega) hb
  have p15 := hb.size
  clear hb
  clear  hk0
  refine bodyPost_ret (v := .tuple #[.string ByteArray.empty, .bool false]) (by simp [results, Try.results15, go_sem]; rfl) rfl ?_
  exact ⟨rfl, k15⟩
set_option maxRecDepth 100000 in
set_option maxHeartbeats 4000000 in
theorem specFS_ctn (t : ByteArray) (w : World) {B20 G H wx wy t1 t2 tm : ByteArray} {A n b kd si di x xx : Int} {p : Packet} (hP : ∀ u : World, Calls Try.prog 49 #[.string t] u fun e w' => e = .returned (.tuple #[.int .i64 (A + 10), .int .i64 b]) ∧ Below u.heap.size u w') (hA : ∀ u : World, Calls Try.prog 56 #[.string t, .int .i64 (A + 10)] u fun e w' => e = .returned (.int .i64 0) ∧ Below u.heap.size u w') (hBb : ∀ u : World, Calls Try.prog 56 #[.string t, .int .i64 b] u fun e w' => e = .returned (.int .i64 0) ∧ Below u.heap.size u w') (hN : ∀ u : World, Calls Try.prog 56 #[.string t, .int .i64 (A + 2)] u fun e w' => e = .returned (.int .i64 n) ∧ Below u.heap.size u w') (hC2 : ∀ u : World, Calls Try.prog 57 #[.string B20] u fun e w' => e = .returned (.int .i64 xx) ∧ Below u.heap.size u w') (h12 : ∀ u : World, Calls Try.prog 59 #[.string t, .int .i64 (A + 12)] u fun e w' => e = .returned (.int .i64 si) ∧ Below u.heap.size u w') (h16 : ∀ u : World, Calls Try.prog 59 #[.string t, .int .i64 (A + 16)] u fun e w' => e = .returned (.int .i64 di) ∧ Below u.heap.size u w') (hH : ∀ u : World, Calls Try.prog 58 #[.int .i64 si, .int .i64 di, .int .i64 kd, .int .i64 (n - 20)] u fun e w' => e = .returned (.tuple #[.string H, .bool true]) ∧ Below u.heap.size u w') (hK : ∀ u : World, Calls Try.prog 57 #[.string (H ++ G)] u fun e w' => e = .returned (.int .i64 x) ∧ Below u.heap.size u w') (hW1 : ∀ u : World, Calls Try.prog 51 #[.int .i64 xx] u fun e w' => e = .returned (.string wx) ∧ Below u.heap.size u w') (hP1 : ∀ u : World, Calls Try.prog 50 #[.string t, .int .i64 (A + 10), .string wx] u fun e w' => e = .returned (.string t1) ∧ Below u.heap.size u w') (hW2 : ∀ u : World, Calls Try.prog 51 #[.int .i64 x] u fun e w' => e = .returned (.string wy) ∧ Below u.heap.size u w') (hP2 : ∀ u : World, Calls Try.prog 50 #[.string t1, .int .i64 b, .string wy] u fun e w' => e = .returned (.string t2) ∧ Below u.heap.size u w') (ht : t.size ≤ 1048576) (hsz : A + 46 ≤ (t.size : Int)) (hA2 : 14 ≤ A ∧ A ≤ 18) (hbd2 : 20 ≤ b ∧ b ≤ 54) (r2 : byt t (A + 9).toNat = kd) (hnb : -1 ≤ n ∧ n ≤ 65535) (hlo : b + 2 - A ≤ n) (hhi : n ≤ (t.size : Int) - A) (r6 : t.extract A.toNat (A + 20).toNat = B20) (r8 : t.extract (A + 20).toNat (A + n).toNat = G) (hnz : (G.size : Int) = n - 20) (zH : H.size = 12) (h17 : ¬ kd = 17) (hx0 : ¬ x = 0) (hR : ∀ u : World, Calls Try.prog 60 #[.string t2] u fun e w' => e = .returned (.tuple #[.agg #[.int .i64 p.dmac, .int .i64 p.smac, .int .i64 p.vlan, .int .i64 p.tos, .int .i64 p.id, .int .i64 p.ttl, .int .i64 p.sip, .int .i64 p.dip, .int .i64 p.seg_kind, .int .i64 p.seg_sport, .int .i64 p.seg_dport, .int .i64 p.seg_seq, .int .i64 p.seg_ack, .int .i64 p.seg_flags, .int .i64 p.seg_win, .string p.seg_body], .int .i64 0]) ∧ Below u.heap.size u w') (hT : ∀ u : World, Calls Try.prog 12 #[.agg #[.int .i64 p.dmac, .int .i64 p.smac, .int .i64 p.vlan, .int .i64 p.tos, .int .i64 p.id, .int .i64 p.ttl, .int .i64 p.sip, .int .i64 p.dip, .int .i64 p.seg_kind, .int .i64 p.seg_sport, .int .i64 p.seg_dport, .int .i64 p.seg_seq, .int .i64 p.seg_ack, .int .i64 p.seg_flags, .int .i64 p.seg_win, .string p.seg_body]] u fun e w' => e = .returned (.tuple #[.string tm, .bool true]) ∧ Below u.heap.size u w') (he : (tm.toList == t.toList) = false) :
    Calls Try.prog 15 #[.string t] w fun e w' => e = .returned (.tuple #[.string ByteArray.empty, .bool false]) ∧ Below w.heap.size w w' := by
  have x9 := idxi (s := t) (i := A + 9) (k := (A + 9).toNat) (by omega) (by omega)
  have kb := byt_bd t (A + 9).toNat
  simp only [r2] at x9 kb
  have ewk : IntKind.i64.wrap kd = kd := IntWalk.i64_in _ ⟨by omega, by omega⟩
  have zHG : (H ++ G).size = 12 + G.size := by rw [ByteArray.size_append, zH]
  have hov : ¬ 9223372036854775807 < 12 + G.size := by omega
  go_enter Try.func15, Try.ntmps15
  go_wp2_with fail
  have k0 : Below w.heap.size w w := by go_grown
  have p0 := k0.size
  refine (hP _).mono ?_
  rintro e w1 ⟨rfl, hb⟩
  have k1 : Below w.heap.size w w1 := ext_step k0 (by omega) hb
  have p1 := hb.size
  clear hb
  go_wp2_with fail
  refine (hA _).mono ?_
  rintro e w2 ⟨rfl, hb⟩
  have k2 : Below w.heap.size w w2 := ext_step k1 (by omega) hb
  have p2 := hb.size
  clear hb
  go_wp2_with fail
  refine (hBb _).mono ?_
  rintro e w3 ⟨rfl, hb⟩
  have k3 : Below w.heap.size w w3 := ext_step k2 (by omega) hb
  have p3 := hb.size
  clear hb
  go_wp2_with fail
  refine (hN _).mono ?_
  rintro e w4 ⟨rfl, hb⟩
  have k4 : Below w.heap.size w w4 := ext_step k3 (by omega) hb
  have p4 := hb.size
  clear hb
  go_wp2_with fail
  refine (hC2 _).mono ?_
  rintro e w5 ⟨rfl, hb⟩
  have k5 : Below w.heap.size w w5 := ext_step k4 (by omega) hb
  have p5 := hb.size
  clear hb
  go_wp2_with fail
  refine (h12 _).mono ?_
  rintro e w6 ⟨rfl, hb⟩
  have k6 : Below w.heap.size w w6 := ext_step k5 (by omega) hb
  have p6 := hb.size
  clear hb
  go_wp2_with fail
  refine (h16 _).mono ?_
  rintro e w7 ⟨rfl, hb⟩
  have k7 : Below w.heap.size w w7 := ext_step k6 (by omega) hb
  have p7 := hb.size
  clear hb
  go_wp2_with fail
  refine (hH _).mono ?_
  rintro e w8 ⟨rfl, hb⟩
  have k8 : Below w.heap.size w w8 := ext_step k7 (by omega) hb
  have p8 := hb.size
  clear hb
  go_wp2_with fail
  refine (hK _).mono ?_
  rintro e w9 ⟨rfl, hb⟩
  have k9 : Below w.heap.size w w9 := ext_step k8 (by omega) hb
  have p9 := hb.size
  clear hb
  go_wp2_with fail
  refine (hW1 _).mono ?_
  rintro e w10 ⟨rfl, hb⟩
  have k10 : Below w.heap.size w w10 := ext_step k9 (by omega) hb
  have p10 := hb.size
  clear hb
  go_wp2_with fail
  refine (hP1 _).mono ?_
  rintro e w11 ⟨rfl, hb⟩
  have k11 : Below w.heap.size w w11 := ext_step k10 (by omega) hb
  have p11 := hb.size
  clear hb
  go_wp2_with fail
  refine (hW2 _).mono ?_
  rintro e w12 ⟨rfl, hb⟩
  have k12 : Below w.heap.size w w12 := ext_step k11 (by omega) hb
  have p12 := hb.size
  clear hb
  go_wp2_with fail
  refine (hP2 _).mono ?_
  rintro e w13 ⟨rfl, hb⟩
  have k13 : Below w.heap.size w w13 := ext_step k12 (by omega) hb
  have p13 := hb.size
  clear hb
  go_wp2_with fail
  refine (hR _).mono ?_
  rintro e w14 ⟨rfl, hb⟩
  have k14 : Below w.heap.size w w14 := ext_step k13 (by omega) hb
  have p14 := hb.size
  clear hb
  go_wp2_with fail
  obtain ⟨w15, hW0⟩ : ∃ W, W = (w14.alloc (.cells #[.int .i64 p.dmac, .int .i64 p.smac, .int .i64 p.vlan, .int .i64 p.tos, .int .i64 p.id, .int .i64 p.ttl, .int .i64 p.sip, .int .i64 p.dip, .int .i64 p.seg_kind, .int .i64 p.seg_sport, .int .i64 p.seg_dport, .int .i64 p.seg_seq, .int .i64 p.seg_ack, .int .i64 p.seg_flags, .int .i64 p.seg_win, .string p.seg_body] 31)) := ⟨_, rfl⟩
  have hb : Below w14.heap.size w14 w15 := by rw [hW0]; go_grown
  have bl0 : w14.heap.size < w15.heap.size := by rw [hW0]; go_size
  have hk0 : Blk w15 (w14.heap.size) 31 [.int .i64 p.dmac, .int .i64 p.smac, .int .i64 p.vlan, .int .i64 p.tos, .int .i64 p.id, .int .i64 p.ttl, .int .i64 p.sip, .int .i64 p.dip, .int .i64 p.seg_kind, .int .i64 p.seg_sport, .int .i64 p.seg_dport, .int .i64 p.seg_seq, .int .i64 p.seg_ack, .int .i64 p.seg_flags, .int .i64 p.seg_win, .string p.seg_body] := by rw [hW0]; exact Blk.new _ _ _
  rw [← hW0]
  clear hW0
  have k15 := ext_step k14 (by omega) hb
  have p15 := hb.size
  clear hb
  refine (hT _).mono ?_
  rintro e w16 ⟨rfl, hb⟩
  have k16 : Below w.heap.size w w16 := ext_step k15 (by omega) hb
  have p16 := hb.size
  replace hk0 := hk0.ext hb
  have bl0 := Nat.lt_of_lt_of_le bl0 hb.size
  clear hb
  clear  hk0
  go_wp2_with fail
  refine bodyPost_ret (v := .tuple #[.string ByteArray.empty, .bool false]) (by simp [results, Try.results15, go_sem]; rfl) rfl ?_
  exact ⟨rfl, k16⟩
set_option maxRecDepth 100000 in
set_option maxHeartbeats 4000000 in
theorem specFS_cok (t : ByteArray) (w : World) {B20 G H wx wy t1 t2 tm : ByteArray} {A n b kd si di x xx : Int} {p : Packet} (hP : ∀ u : World, Calls Try.prog 49 #[.string t] u fun e w' => e = .returned (.tuple #[.int .i64 (A + 10), .int .i64 b]) ∧ Below u.heap.size u w') (hA : ∀ u : World, Calls Try.prog 56 #[.string t, .int .i64 (A + 10)] u fun e w' => e = .returned (.int .i64 0) ∧ Below u.heap.size u w') (hBb : ∀ u : World, Calls Try.prog 56 #[.string t, .int .i64 b] u fun e w' => e = .returned (.int .i64 0) ∧ Below u.heap.size u w') (hN : ∀ u : World, Calls Try.prog 56 #[.string t, .int .i64 (A + 2)] u fun e w' => e = .returned (.int .i64 n) ∧ Below u.heap.size u w') (hC2 : ∀ u : World, Calls Try.prog 57 #[.string B20] u fun e w' => e = .returned (.int .i64 xx) ∧ Below u.heap.size u w') (h12 : ∀ u : World, Calls Try.prog 59 #[.string t, .int .i64 (A + 12)] u fun e w' => e = .returned (.int .i64 si) ∧ Below u.heap.size u w') (h16 : ∀ u : World, Calls Try.prog 59 #[.string t, .int .i64 (A + 16)] u fun e w' => e = .returned (.int .i64 di) ∧ Below u.heap.size u w') (hH : ∀ u : World, Calls Try.prog 58 #[.int .i64 si, .int .i64 di, .int .i64 kd, .int .i64 (n - 20)] u fun e w' => e = .returned (.tuple #[.string H, .bool true]) ∧ Below u.heap.size u w') (hK : ∀ u : World, Calls Try.prog 57 #[.string (H ++ G)] u fun e w' => e = .returned (.int .i64 x) ∧ Below u.heap.size u w') (hW1 : ∀ u : World, Calls Try.prog 51 #[.int .i64 xx] u fun e w' => e = .returned (.string wx) ∧ Below u.heap.size u w') (hP1 : ∀ u : World, Calls Try.prog 50 #[.string t, .int .i64 (A + 10), .string wx] u fun e w' => e = .returned (.string t1) ∧ Below u.heap.size u w') (hW2 : ∀ u : World, Calls Try.prog 51 #[.int .i64 x] u fun e w' => e = .returned (.string wy) ∧ Below u.heap.size u w') (hP2 : ∀ u : World, Calls Try.prog 50 #[.string t1, .int .i64 b, .string wy] u fun e w' => e = .returned (.string t2) ∧ Below u.heap.size u w') (ht : t.size ≤ 1048576) (hsz : A + 46 ≤ (t.size : Int)) (hA2 : 14 ≤ A ∧ A ≤ 18) (hbd2 : 20 ≤ b ∧ b ≤ 54) (r2 : byt t (A + 9).toNat = kd) (hnb : -1 ≤ n ∧ n ≤ 65535) (hlo : b + 2 - A ≤ n) (hhi : n ≤ (t.size : Int) - A) (r6 : t.extract A.toNat (A + 20).toNat = B20) (r8 : t.extract (A + 20).toNat (A + n).toNat = G) (hnz : (G.size : Int) = n - 20) (zH : H.size = 12) (h17 : ¬ kd = 17) (hx0 : ¬ x = 0) (hR : ∀ u : World, Calls Try.prog 60 #[.string t2] u fun e w' => e = .returned (.tuple #[.agg #[.int .i64 p.dmac, .int .i64 p.smac, .int .i64 p.vlan, .int .i64 p.tos, .int .i64 p.id, .int .i64 p.ttl, .int .i64 p.sip, .int .i64 p.dip, .int .i64 p.seg_kind, .int .i64 p.seg_sport, .int .i64 p.seg_dport, .int .i64 p.seg_seq, .int .i64 p.seg_ack, .int .i64 p.seg_flags, .int .i64 p.seg_win, .string p.seg_body], .int .i64 0]) ∧ Below u.heap.size u w') (hT : ∀ u : World, Calls Try.prog 12 #[.agg #[.int .i64 p.dmac, .int .i64 p.smac, .int .i64 p.vlan, .int .i64 p.tos, .int .i64 p.id, .int .i64 p.ttl, .int .i64 p.sip, .int .i64 p.dip, .int .i64 p.seg_kind, .int .i64 p.seg_sport, .int .i64 p.seg_dport, .int .i64 p.seg_seq, .int .i64 p.seg_ack, .int .i64 p.seg_flags, .int .i64 p.seg_win, .string p.seg_body]] u fun e w' => e = .returned (.tuple #[.string tm, .bool true]) ∧ Below u.heap.size u w') (hB : ∀ u : World, Calls Try.prog 48 #[.agg #[.int .i64 p.dmac, .int .i64 p.smac, .int .i64 p.vlan, .int .i64 p.tos, .int .i64 p.id, .int .i64 p.ttl, .int .i64 p.sip, .int .i64 p.dip, .int .i64 p.seg_kind, .int .i64 p.seg_sport, .int .i64 p.seg_dport, .int .i64 p.seg_seq, .int .i64 p.seg_ack, .int .i64 p.seg_flags, .int .i64 p.seg_win, .string p.seg_body]] u fun e w' => e = .returned (.tuple #[.string (imgS p), .bool true]) ∧ Below u.heap.size u w') (he : (tm.toList == t.toList) = true) :
    Calls Try.prog 15 #[.string t] w fun e w' => e = .returned (.tuple #[.string (imgS p), .bool true]) ∧ Below w.heap.size w w' := by
  have x9 := idxi (s := t) (i := A + 9) (k := (A + 9).toNat) (by omega) (by omega)
  have kb := byt_bd t (A + 9).toNat
  simp only [r2] at x9 kb
  have ewk : IntKind.i64.wrap kd = kd := IntWalk.i64_in _ ⟨by omega, by omega⟩
  have zHG : (H ++ G).size = 12 + G.size := by rw [ByteArray.size_append, zH]
  have hov : ¬ 9223372036854775807 < 12 + G.size := by omega
  go_enter Try.func15, Try.ntmps15
  go_wp2_with fail
  have k0 : Below w.heap.size w w := by go_grown
  have p0 := k0.size
  refine (hP _).mono ?_
  rintro e w1 ⟨rfl, hb⟩
  have k1 : Below w.heap.size w w1 := ext_step k0 (by omega) hb
  have p1 := hb.size
  clear hb
  go_wp2_with fail
  refine (hA _).mono ?_
  rintro e w2 ⟨rfl, hb⟩
  have k2 : Below w.heap.size w w2 := ext_step k1 (by omega) hb
  have p2 := hb.size
  clear hb
  go_wp2_with fail
  refine (hBb _).mono ?_
  rintro e w3 ⟨rfl, hb⟩
  have k3 : Below w.heap.size w w3 := ext_step k2 (by omega) hb
  have p3 := hb.size
  clear hb
  go_wp2_with fail
  refine (hN _).mono ?_
  rintro e w4 ⟨rfl, hb⟩
  have k4 : Below w.heap.size w w4 := ext_step k3 (by omega) hb
  have p4 := hb.size
  clear hb
  go_wp2_with fail
  refine (hC2 _).mono ?_
  rintro e w5 ⟨rfl, hb⟩
  have k5 : Below w.heap.size w w5 := ext_step k4 (by omega) hb
  have p5 := hb.size
  clear hb
  go_wp2_with fail
  refine (h12 _).mono ?_
  rintro e w6 ⟨rfl, hb⟩
  have k6 : Below w.heap.size w w6 := ext_step k5 (by omega) hb
  have p6 := hb.size
  clear hb
  go_wp2_with fail
  refine (h16 _).mono ?_
  rintro e w7 ⟨rfl, hb⟩
  have k7 : Below w.heap.size w w7 := ext_step k6 (by omega) hb
  have p7 := hb.size
  clear hb
  go_wp2_with fail
  refine (hH _).mono ?_
  rintro e w8 ⟨rfl, hb⟩
  have k8 : Below w.heap.size w w8 := ext_step k7 (by omega) hb
  have p8 := hb.size
  clear hb
  go_wp2_with fail
  refine (hK _).mono ?_
  rintro e w9 ⟨rfl, hb⟩
  have k9 : Below w.heap.size w w9 := ext_step k8 (by omega) hb
  have p9 := hb.size
  clear hb
  go_wp2_with fail
  refine (hW1 _).mono ?_
  rintro e w10 ⟨rfl, hb⟩
  have k10 : Below w.heap.size w w10 := ext_step k9 (by omega) hb
  have p10 := hb.size
  clear hb
  go_wp2_with fail
  refine (hP1 _).mono ?_
  rintro e w11 ⟨rfl, hb⟩
  have k11 : Below w.heap.size w w11 := ext_step k10 (by omega) hb
  have p11 := hb.size
  clear hb
  go_wp2_with fail
  refine (hW2 _).mono ?_
  rintro e w12 ⟨rfl, hb⟩
  have k12 : Below w.heap.size w w12 := ext_step k11 (by omega) hb
  have p12 := hb.size
  clear hb
  go_wp2_with fail
  refine (hP2 _).mono ?_
  rintro e w13 ⟨rfl, hb⟩
  have k13 : Below w.heap.size w w13 := ext_step k12 (by omega) hb
  have p13 := hb.size
  clear hb
  go_wp2_with fail
  refine (hR _).mono ?_
  rintro e w14 ⟨rfl, hb⟩
  have k14 : Below w.heap.size w w14 := ext_step k13 (by omega) hb
  have p14 := hb.size
  clear hb
  go_wp2_with fail
  obtain ⟨w15, hW0⟩ : ∃ W, W = (w14.alloc (.cells #[.int .i64 p.dmac, .int .i64 p.smac, .int .i64 p.vlan, .int .i64 p.tos, .int .i64 p.id, .int .i64 p.ttl, .int .i64 p.sip, .int .i64 p.dip, .int .i64 p.seg_kind, .int .i64 p.seg_sport, .int .i64 p.seg_dport, .int .i64 p.seg_seq, .int .i64 p.seg_ack, .int .i64 p.seg_flags, .int .i64 p.seg_win, .string p.seg_body] 31)) := ⟨_, rfl⟩
  have hb : Below w14.heap.size w14 w15 := by rw [hW0]; go_grown
  have bl0 : w14.heap.size < w15.heap.size := by rw [hW0]; go_size
  have hk0 : Blk w15 (w14.heap.size) 31 [.int .i64 p.dmac, .int .i64 p.smac, .int .i64 p.vlan, .int .i64 p.tos, .int .i64 p.id, .int .i64 p.ttl, .int .i64 p.sip, .int .i64 p.dip, .int .i64 p.seg_kind, .int .i64 p.seg_sport, .int .i64 p.seg_dport, .int .i64 p.seg_seq, .int .i64 p.seg_ack, .int .i64 p.seg_flags, .int .i64 p.seg_win, .string p.seg_body] := by rw [hW0]; exact Blk.new _ _ _
  rw [← hW0]
  clear hW0
  have k15 := ext_step k14 (by omega) hb
  have p15 := hb.size
  clear hb
  refine (hT _).mono ?_
  rintro e w16 ⟨rfl, hb⟩
  have k16 : Below w.heap.size w w16 := ext_step k15 (by omega) hb
  have p16 := hb.size
  replace hk0 := hk0.ext hb
  have bl0 := Nat.lt_of_lt_of_le bl0 hb.size
  clear hb
  have bx0_0 := hk0.at_ 0 _ rfl
  have bx0_1 := hk0.at_ 1 _ rfl
  have bx0_2 := hk0.at_ 2 _ rfl
  have bx0_3 := hk0.at_ 3 _ rfl
  have bx0_4 := hk0.at_ 4 _ rfl
  have bx0_5 := hk0.at_ 5 _ rfl
  have bx0_6 := hk0.at_ 6 _ rfl
  have bx0_7 := hk0.at_ 7 _ rfl
  have bx0_8 := hk0.at_ 8 _ rfl
  have bx0_9 := hk0.at_ 9 _ rfl
  have bx0_10 := hk0.at_ 10 _ rfl
  have bx0_11 := hk0.at_ 11 _ rfl
  have bx0_12 := hk0.at_ 12 _ rfl
  have bx0_13 := hk0.at_ 13 _ rfl
  have bx0_14 := hk0.at_ 14 _ rfl
  have bx0_15 := hk0.at_ 15 _ rfl
  go_wp2_with fail
  refine (hB _).mono ?_
  rintro e w17 ⟨rfl, hb⟩
  have k17 : Below w.heap.size w w17 := ext_step k16 (by omega) hb
  have p17 := hb.size
  replace hk0 := hk0.ext hb
  clear bx0_0 bx0_1 bx0_2 bx0_3 bx0_4 bx0_5 bx0_6 bx0_7 bx0_8 bx0_9 bx0_10 bx0_11 bx0_12 bx0_13 bx0_14 bx0_15
  have bl0 := Nat.lt_of_lt_of_le bl0 hb.size
  clear hb
  go_wp2_with fail
  refine bodyPost_ret (v := .tuple #[.string (imgS p), .bool true]) (by simp [results, Try.results15, go_sem]) rfl ?_
  exact ⟨rfl, k17⟩
set_option maxRecDepth 100000 in
set_option maxHeartbeats 4000000 in
theorem specFS_cr0 (t : ByteArray) (w : World) {B20 G H wx wy t1 t2 : ByteArray} {A n b kd si di x xx c : Int} (hP : ∀ u : World, Calls Try.prog 49 #[.string t] u fun e w' => e = .returned (.tuple #[.int .i64 (A + 10), .int .i64 b]) ∧ Below u.heap.size u w') (hA : ∀ u : World, Calls Try.prog 56 #[.string t, .int .i64 (A + 10)] u fun e w' => e = .returned (.int .i64 0) ∧ Below u.heap.size u w') (hBb : ∀ u : World, Calls Try.prog 56 #[.string t, .int .i64 b] u fun e w' => e = .returned (.int .i64 0) ∧ Below u.heap.size u w') (hN : ∀ u : World, Calls Try.prog 56 #[.string t, .int .i64 (A + 2)] u fun e w' => e = .returned (.int .i64 n) ∧ Below u.heap.size u w') (hC2 : ∀ u : World, Calls Try.prog 57 #[.string B20] u fun e w' => e = .returned (.int .i64 xx) ∧ Below u.heap.size u w') (h12 : ∀ u : World, Calls Try.prog 59 #[.string t, .int .i64 (A + 12)] u fun e w' => e = .returned (.int .i64 si) ∧ Below u.heap.size u w') (h16 : ∀ u : World, Calls Try.prog 59 #[.string t, .int .i64 (A + 16)] u fun e w' => e = .returned (.int .i64 di) ∧ Below u.heap.size u w') (hH : ∀ u : World, Calls Try.prog 58 #[.int .i64 si, .int .i64 di, .int .i64 kd, .int .i64 (n - 20)] u fun e w' => e = .returned (.tuple #[.string H, .bool true]) ∧ Below u.heap.size u w') (hK : ∀ u : World, Calls Try.prog 57 #[.string (H ++ G)] u fun e w' => e = .returned (.int .i64 x) ∧ Below u.heap.size u w') (hW1 : ∀ u : World, Calls Try.prog 51 #[.int .i64 xx] u fun e w' => e = .returned (.string wx) ∧ Below u.heap.size u w') (hP1 : ∀ u : World, Calls Try.prog 50 #[.string t, .int .i64 (A + 10), .string wx] u fun e w' => e = .returned (.string t1) ∧ Below u.heap.size u w') (hW2 : ∀ u : World, Calls Try.prog 51 #[.int .i64 x] u fun e w' => e = .returned (.string wy) ∧ Below u.heap.size u w') (hP2 : ∀ u : World, Calls Try.prog 50 #[.string t1, .int .i64 b, .string wy] u fun e w' => e = .returned (.string t2) ∧ Below u.heap.size u w') (ht : t.size ≤ 1048576) (hsz : A + 46 ≤ (t.size : Int)) (hA2 : 14 ≤ A ∧ A ≤ 18) (hbd2 : 20 ≤ b ∧ b ≤ 54) (r2 : byt t (A + 9).toNat = kd) (hnb : -1 ≤ n ∧ n ≤ 65535) (hlo : b + 2 - A ≤ n) (hhi : n ≤ (t.size : Int) - A) (r6 : t.extract A.toNat (A + 20).toNat = B20) (r8 : t.extract (A + 20).toNat (A + n).toNat = G) (hnz : (G.size : Int) = n - 20) (zH : H.size = 12) (h17 : ¬ kd = 17) (hx0 : ¬ x = 0) (hR : ∀ u : World, Calls Try.prog 60 #[.string t2] u fun e w' => e = .returned (.tuple #[.agg #[.int .i64 0, .int .i64 0, .int .i64 0, .int .i64 0, .int .i64 0, .int .i64 0, .int .i64 0, .int .i64 0, .int .i64 0, .int .i64 0, .int .i64 0, .int .i64 0, .int .i64 0, .int .i64 0, .int .i64 0, .string ByteArray.empty], .int .i64 c]) ∧ Below u.heap.size u w') (hc : ¬ c = 0) :
    Calls Try.prog 15 #[.string t] w fun e w' => e = .returned (.tuple #[.string ByteArray.empty, .bool false]) ∧ Below w.heap.size w w' := by
  have x9 := idxi (s := t) (i := A + 9) (k := (A + 9).toNat) (by omega) (by omega)
  have kb := byt_bd t (A + 9).toNat
  simp only [r2] at x9 kb
  have ewk : IntKind.i64.wrap kd = kd := IntWalk.i64_in _ ⟨by omega, by omega⟩
  have zHG : (H ++ G).size = 12 + G.size := by rw [ByteArray.size_append, zH]
  have hov : ¬ 9223372036854775807 < 12 + G.size := by omega
  go_enter Try.func15, Try.ntmps15
  go_wp2_with fail
  have k0 : Below w.heap.size w w := by go_grown
  have p0 := k0.size
  refine (hP _).mono ?_
  rintro e w1 ⟨rfl, hb⟩
  have k1 : Below w.heap.size w w1 := ext_step k0 (by omega) hb
  have p1 := hb.size
  clear hb
  go_wp2_with fail
  refine (hA _).mono ?_
  rintro e w2 ⟨rfl, hb⟩
  have k2 : Below w.heap.size w w2 := ext_step k1 (by omega) hb
  have p2 := hb.size
  clear hb
  go_wp2_with fail
  refine (hBb _).mono ?_
  rintro e w3 ⟨rfl, hb⟩
  have k3 : Below w.heap.size w w3 := ext_step k2 (by omega) hb
  have p3 := hb.size
  clear hb
  go_wp2_with fail
  refine (hN _).mono ?_
  rintro e w4 ⟨rfl, hb⟩
  have k4 : Below w.heap.size w w4 := ext_step k3 (by omega) hb
  have p4 := hb.size
  clear hb
  go_wp2_with fail
  refine (hC2 _).mono ?_
  rintro e w5 ⟨rfl, hb⟩
  have k5 : Below w.heap.size w w5 := ext_step k4 (by omega) hb
  have p5 := hb.size
  clear hb
  go_wp2_with fail
  refine (h12 _).mono ?_
  rintro e w6 ⟨rfl, hb⟩
  have k6 : Below w.heap.size w w6 := ext_step k5 (by omega) hb
  have p6 := hb.size
  clear hb
  go_wp2_with fail
  refine (h16 _).mono ?_
  rintro e w7 ⟨rfl, hb⟩
  have k7 : Below w.heap.size w w7 := ext_step k6 (by omega) hb
  have p7 := hb.size
  clear hb
  go_wp2_with fail
  refine (hH _).mono ?_
  rintro e w8 ⟨rfl, hb⟩
  have k8 : Below w.heap.size w w8 := ext_step k7 (by omega) hb
  have p8 := hb.size
  clear hb
  go_wp2_with fail
  refine (hK _).mono ?_
  rintro e w9 ⟨rfl, hb⟩
  have k9 : Below w.heap.size w w9 := ext_step k8 (by omega) hb
  have p9 := hb.size
  clear hb
  go_wp2_with fail
  refine (hW1 _).mono ?_
  rintro e w10 ⟨rfl, hb⟩
  have k10 : Below w.heap.size w w10 := ext_step k9 (by omega) hb
  have p10 := hb.size
  clear hb
  go_wp2_with fail
  refine (hP1 _).mono ?_
  rintro e w11 ⟨rfl, hb⟩
  have k11 : Below w.heap.size w w11 := ext_step k10 (by omega) hb
  have p11 := hb.size
  clear hb
  go_wp2_with fail
  refine (hW2 _).mono ?_
  rintro e w12 ⟨rfl, hb⟩
  have k12 : Below w.heap.size w w12 := ext_step k11 (by omega) hb
  have p12 := hb.size
  clear hb
  go_wp2_with fail
  refine (hP2 _).mono ?_
  rintro e w13 ⟨rfl, hb⟩
  have k13 : Below w.heap.size w w13 := ext_step k12 (by omega) hb
  have p13 := hb.size
  clear hb
  go_wp2_with fail
  refine (hR _).mono ?_
  rintro e w14 ⟨rfl, hb⟩
  have k14 : Below w.heap.size w w14 := ext_step k13 (by omega) hb
  have p14 := hb.size
  clear hb
  go_wp2_with fail
  obtain ⟨w15, hW0⟩ : ∃ W, W = (w14.alloc (.cells #[.int .i64 0, .int .i64 0, .int .i64 0, .int .i64 0, .int .i64 0, .int .i64 0, .int .i64 0, .int .i64 0, .int .i64 0, .int .i64 0, .int .i64 0, .int .i64 0, .int .i64 0, .int .i64 0, .int .i64 0, .string ByteArray.empty] 31)) := ⟨_, rfl⟩
  have hb : Below w14.heap.size w14 w15 := by rw [hW0]; go_grown
  have bl0 : w14.heap.size < w15.heap.size := by rw [hW0]; go_size
  have hk0 : Blk w15 (w14.heap.size) 31 [.int .i64 0, .int .i64 0, .int .i64 0, .int .i64 0, .int .i64 0, .int .i64 0, .int .i64 0, .int .i64 0, .int .i64 0, .int .i64 0, .int .i64 0, .int .i64 0, .int .i64 0, .int .i64 0, .int .i64 0, .string ByteArray.empty] := by rw [hW0]; exact Blk.new _ _ _
  rw [← hW0]
  clear hW0
  have k15 := ext_step k14 (by omega) hb
  have p15 := hb.size
  clear hb
  clear  hk0
  refine bodyPost_ret (v := .tuple #[.string ByteArray.empty, .bool false]) (by simp [results, Try.results15, go_sem]; rfl) rfl ?_
  exact ⟨rfl, k15⟩
set_option maxRecDepth 100000 in
set_option maxHeartbeats 4000000 in
theorem specFS_n1 (t : ByteArray) (w : World) {A n b kd : Int} (hP : ∀ u : World, Calls Try.prog 49 #[.string t] u fun e w' => e = .returned (.tuple #[.int .i64 (A + 10), .int .i64 b]) ∧ Below u.heap.size u w') (hA : ∀ u : World, Calls Try.prog 56 #[.string t, .int .i64 (A + 10)] u fun e w' => e = .returned (.int .i64 0) ∧ Below u.heap.size u w') (hBb : ∀ u : World, Calls Try.prog 56 #[.string t, .int .i64 b] u fun e w' => e = .returned (.int .i64 0) ∧ Below u.heap.size u w') (hN : ∀ u : World, Calls Try.prog 56 #[.string t, .int .i64 (A + 2)] u fun e w' => e = .returned (.int .i64 n) ∧ Below u.heap.size u w') (ht : t.size ≤ 1048576) (hsz : A + 46 ≤ (t.size : Int)) (hA2 : 14 ≤ A ∧ A ≤ 18) (hbd2 : 20 ≤ b ∧ b ≤ 54) (r2 : byt t (A + 9).toNat = kd) (hnb : -1 ≤ n ∧ n ≤ 65535) (hlo : b + 2 - A ≤ n) (hhi : ¬ n ≤ (t.size : Int) - A) :
    Calls Try.prog 15 #[.string t] w fun e w' => e = .returned (.tuple #[.string ByteArray.empty, .bool false]) ∧ Below w.heap.size w w' := by
  have x9 := idxi (s := t) (i := A + 9) (k := (A + 9).toNat) (by omega) (by omega)
  have kb := byt_bd t (A + 9).toNat
  simp only [r2] at x9 kb
  have ewk : IntKind.i64.wrap kd = kd := IntWalk.i64_in _ ⟨by omega, by omega⟩
  go_enter Try.func15, Try.ntmps15
  go_wp2_with fail
  have k0 : Below w.heap.size w w := by go_grown
  have p0 := k0.size
  refine (hP _).mono ?_
  rintro e w1 ⟨rfl, hb⟩
  have k1 : Below w.heap.size w w1 := ext_step k0 (by omega) hb
  have p1 := hb.size
  clear hb
  go_wp2_with fail
  refine (hA _).mono ?_
  rintro e w2 ⟨rfl, hb⟩
  have k2 : Below w.heap.size w w2 := ext_step k1 (by omega) hb
  have p2 := hb.size
  clear hb
  go_wp2_with fail
  refine (hBb _).mono ?_
  rintro e w3 ⟨rfl, hb⟩
  have k3 : Below w.heap.size w w3 := ext_step k2 (by omega) hb
  have p3 := hb.size
  clear hb
  go_wp2_with fail
  refine (hN _).mono ?_
  rintro e w4 ⟨rfl, hb⟩
  have k4 : Below w.heap.size w w4 := ext_step k3 (by omega) hb
  have p4 := hb.size
  clear hb
  go_wp2_with fail
  refine bodyPost_ret (v := .tuple #[.string ByteArray.empty, .bool false]) (by simp [results, Try.results15, go_sem]; rfl) rfl ?_
  exact ⟨rfl, k4⟩
set_option maxRecDepth 100000 in
set_option maxHeartbeats 4000000 in
theorem specFS_n0 (t : ByteArray) (w : World) {A n b kd : Int} (hP : ∀ u : World, Calls Try.prog 49 #[.string t] u fun e w' => e = .returned (.tuple #[.int .i64 (A + 10), .int .i64 b]) ∧ Below u.heap.size u w') (hA : ∀ u : World, Calls Try.prog 56 #[.string t, .int .i64 (A + 10)] u fun e w' => e = .returned (.int .i64 0) ∧ Below u.heap.size u w') (hBb : ∀ u : World, Calls Try.prog 56 #[.string t, .int .i64 b] u fun e w' => e = .returned (.int .i64 0) ∧ Below u.heap.size u w') (hN : ∀ u : World, Calls Try.prog 56 #[.string t, .int .i64 (A + 2)] u fun e w' => e = .returned (.int .i64 n) ∧ Below u.heap.size u w') (ht : t.size ≤ 1048576) (hsz : A + 46 ≤ (t.size : Int)) (hA2 : 14 ≤ A ∧ A ≤ 18) (hbd2 : 20 ≤ b ∧ b ≤ 54) (r2 : byt t (A + 9).toNat = kd) (hnb : -1 ≤ n ∧ n ≤ 65535) (hlo : ¬ b + 2 - A ≤ n) :
    Calls Try.prog 15 #[.string t] w fun e w' => e = .returned (.tuple #[.string ByteArray.empty, .bool false]) ∧ Below w.heap.size w w' := by
  have x9 := idxi (s := t) (i := A + 9) (k := (A + 9).toNat) (by omega) (by omega)
  have kb := byt_bd t (A + 9).toNat
  simp only [r2] at x9 kb
  have ewk : IntKind.i64.wrap kd = kd := IntWalk.i64_in _ ⟨by omega, by omega⟩
  go_enter Try.func15, Try.ntmps15
  go_wp2_with fail
  have k0 : Below w.heap.size w w := by go_grown
  have p0 := k0.size
  refine (hP _).mono ?_
  rintro e w1 ⟨rfl, hb⟩
  have k1 : Below w.heap.size w w1 := ext_step k0 (by omega) hb
  have p1 := hb.size
  clear hb
  go_wp2_with fail
  refine (hA _).mono ?_
  rintro e w2 ⟨rfl, hb⟩
  have k2 : Below w.heap.size w w2 := ext_step k1 (by omega) hb
  have p2 := hb.size
  clear hb
  go_wp2_with fail
  refine (hBb _).mono ?_
  rintro e w3 ⟨rfl, hb⟩
  have k3 : Below w.heap.size w w3 := ext_step k2 (by omega) hb
  have p3 := hb.size
  clear hb
  go_wp2_with fail
  refine (hN _).mono ?_
  rintro e w4 ⟨rfl, hb⟩
  have k4 : Below w.heap.size w w4 := ext_step k3 (by omega) hb
  have p4 := hb.size
  clear hb
  go_wp2_with fail
  refine bodyPost_ret (v := .tuple #[.string ByteArray.empty, .bool false]) (by simp [results, Try.results15, go_sem]; rfl) rfl ?_
  exact ⟨rfl, k4⟩
set_option maxRecDepth 100000 in
set_option maxHeartbeats 4000000 in
theorem specFS_b1 (t : ByteArray) (w : World) {A b gb : Int} (hP : ∀ u : World, Calls Try.prog 49 #[.string t] u fun e w' => e = .returned (.tuple #[.int .i64 (A + 10), .int .i64 b]) ∧ Below u.heap.size u w') (hA : ∀ u : World, Calls Try.prog 56 #[.string t, .int .i64 (A + 10)] u fun e w' => e = .returned (.int .i64 0) ∧ Below u.heap.size u w') (hBb : ∀ u : World, Calls Try.prog 56 #[.string t, .int .i64 b] u fun e w' => e = .returned (.int .i64 gb) ∧ Below u.heap.size u w') (hb0 : ¬ gb = 0) (hA2 : 14 ≤ A ∧ A ≤ 18) :
    Calls Try.prog 15 #[.string t] w fun e w' => e = .returned (.tuple #[.string ByteArray.empty, .bool false]) ∧ Below w.heap.size w w' := by
  have bg : (gb != 0) = true := by simpa using hb0
  go_enter Try.func15, Try.ntmps15
  go_wp2_with fail
  have k0 : Below w.heap.size w w := by go_grown
  have p0 := k0.size
  refine (hP _).mono ?_
  rintro e w1 ⟨rfl, hb⟩
  have k1 : Below w.heap.size w w1 := ext_step k0 (by omega) hb
  have p1 := hb.size
  clear hb
  go_wp2_with fail
  refine (hA _).mono ?_
  rintro e w2 ⟨rfl, hb⟩
  have k2 : Below w.heap.size w w2 := ext_step k1 (by omega) hb
  have p2 := hb.size
  clear hb
  go_wp2_with fail
  refine (hBb _).mono ?_
  rintro e w3 ⟨rfl, hb⟩
  have k3 : Below w.heap.size w w3 := ext_step k2 (by omega) hb
  have p3 := hb.size
  clear hb
  go_wp2_with fail
  refine bodyPost_ret (v := .tuple #[.string ByteArray.empty, .bool false]) (by simp [results, Try.results15, go_sem]; rfl) rfl ?_
  exact ⟨rfl, k3⟩
set_option maxRecDepth 100000 in
set_option maxHeartbeats 4000000 in
theorem specFS_a1 (t : ByteArray) (w : World) {A b ga : Int} (hP : ∀ u : World, Calls Try.prog 49 #[.string t] u fun e w' => e = .returned (.tuple #[.int .i64 (A + 10), .int .i64 b]) ∧ Below u.heap.size u w') (hA : ∀ u : World, Calls Try.prog 56 #[.string t, .int .i64 (A + 10)] u fun e w' => e = .returned (.int .i64 ga) ∧ Below u.heap.size u w') (ha0 : ¬ ga = 0) (hA2 : 14 ≤ A ∧ A ≤ 18) :
    Calls Try.prog 15 #[.string t] w fun e w' => e = .returned (.tuple #[.string ByteArray.empty, .bool false]) ∧ Below w.heap.size w w' := by
  have bg : (ga != 0) = true := by simpa using ha0
  go_enter Try.func15, Try.ntmps15
  go_wp2_with fail
  have k0 : Below w.heap.size w w := by go_grown
  have p0 := k0.size
  refine (hP _).mono ?_
  rintro e w1 ⟨rfl, hb⟩
  have k1 : Below w.heap.size w w1 := ext_step k0 (by omega) hb
  have p1 := hb.size
  clear hb
  go_wp2_with fail
  refine (hA _).mono ?_
  rintro e w2 ⟨rfl, hb⟩
  have k2 : Below w.heap.size w w2 := ext_step k1 (by omega) hb
  have p2 := hb.size
  clear hb
  go_wp2_with fail
  refine bodyPost_ret (v := .tuple #[.string ByteArray.empty, .bool false]) (by simp [results, Try.results15, go_sem]; rfl) rfl ?_
  exact ⟨rfl, k2⟩
set_option maxRecDepth 100000 in
set_option maxHeartbeats 4000000 in
theorem specFS_s0 (t : ByteArray) (w : World) (hP : ∀ u : World, Calls Try.prog 49 #[.string t] u fun e w' => e = .returned (.tuple #[.int .i64 (-1), .int .i64 (-1)]) ∧ Below u.heap.size u w') :
    Calls Try.prog 15 #[.string t] w fun e w' => e = .returned (.tuple #[.string ByteArray.empty, .bool false]) ∧ Below w.heap.size w w' := by
  go_enter Try.func15, Try.ntmps15
  go_wp2_with fail
  have k0 : Below w.heap.size w w := by go_grown
  have p0 := k0.size
  refine (hP _).mono ?_
  rintro e w1 ⟨rfl, hb⟩
  have k1 : Below w.heap.size w w1 := ext_step k0 (by omega) hb
  have p1 := hb.size
  clear hb
  go_wp2_with fail
  refine bodyPost_ret (v := .tuple #[.string ByteArray.empty, .bool false]) (by simp [results, Try.results15, go_sem]; rfl) rfl ?_
  exact ⟨rfl, k1⟩
set_option maxRecDepth 100000 in
set_option maxHeartbeats 4000000 in
theorem specFillSums_c (t : ByteArray) (w : World) (ht : t.size ≤ 1048576) :
    Calls Try.prog 15 #[.string t] w fun e w' => e = .returned (.tuple #[.string (outF t), .bool (goodF t)]) ∧ Below w.heap.size w w' := by
  by_cases hl : atN t + 46 ≤ t.size
  · have hP := fun u => specPlaces_c t u ht hl
    have hab : (atN t : Int) = 14 ∨ (atN t : Int) = 18 := by unfold atN; split <;> omega
    obtain ⟨A, e_A⟩ : ∃ x, (atN t : Int) = x := ⟨_, rfl⟩
    obtain ⟨r1, r2, r3, r4, r5, r6, r7⟩ := bd_reads hl e_A
    have hpl : 6 ≤ plcI (byt t (atN t + 9)) ∧ plcI (byt t (atN t + 9)) ≤ 16 := by unfold plcI; split <;> omega
    have hsb : sumN t = (atN t : Int) + 20 + plcI (byt t (atN t + 9)) := rfl
    have hsz : A + 46 ≤ (t.size : Int) := by omega
    have hxx : xF t = chk ((bdE t).extract 0 20) := rfl
    have hyy : yF t = fixS (kdF t) (chk (psH (g32 (bdE t) 12) (g32 (bdE t) 16) (kdF t) ((gF t).size : Int) ++ gF t)) := rfl
    have hbz : (bdE t).size ≤ 1048576 := by omega
    have z20 : ((bdE t).extract 0 20).size = 20 := by rw [ex_size _ _ _ (by omega)]
    have hgz : 20 ≤ nF t → nF t ≤ ((bdE t).size : Int) → ((gF t).size : Int) = nF t - 20 := fun h1 h2 => by rw [gF, ex_size _ _ _ (by omega)]; omega
    have hpre : ∀ P : Prop, ((g16 t ((atN t : Int) + 10) = 0 ∧ g16 t (sumN t) = 0 ∧ sumN t + 2 - (atN t : Int) ≤ nF t ∧ nF t ≤ (t.size : Int) - (atN t : Int)) → False) → preS t → False := fun _ h1 h2 => h1 h2.2
    have x9 := idxi (s := t) (i := A + 9) (k := (A + 9).toNat) (by omega) (by omega)
    rw [r2] at x9
    have kb := byt_bd (bdE t) 9
    have hkk : byt (bdE t) 9 = kdF t := rfl
    rw [hkk] at kb
    have hnb := g16_bd t (A + 2)
    rw [r1] at hnb
    have hA0 : (atN t : Int) + 10 = A + 10 := by rw [e_A]
    rw [e_A] at hpre hsb
    simp only [hA0] at hP
    have e_a : (atN t : Int) + 10 = A + 10 := by rw [e_A]
    have h12 := fun u => specGet32_c t (A + 12) u ht ⟨by omega, by omega⟩
    have h16 := fun u => specGet32_c t (A + 16) u ht ⟨by omega, by omega⟩
    have s0 := g32_nn (s := t) (a := A + 12) (hasI (by omega) (by omega))
    have s1 := g32_bd t (A + 12)
    have d0 := g32_nn (s := t) (a := A + 16) (hasI (by omega) (by omega))
    have d1 := g32_bd t (A + 16)
    have hN := fun u => specGet16_c t (A + 2) u ht ⟨by omega, by omega⟩
    rw [r3] at s0 s1
    rw [r4] at d0 d1
    simp only [r3] at h12
    simp only [r4] at h16
    simp only [r1] at hN
    obtain ⟨B20, e_20⟩ : ∃ x, (bdE t).extract 0 20 = x := ⟨_, rfl⟩
    rw [e_20] at r6 z20 hxx
    obtain ⟨si, e_si⟩ : ∃ x, g32 (bdE t) 12 = x := ⟨_, rfl⟩
    obtain ⟨di, e_di⟩ : ∃ x, g32 (bdE t) 16 = x := ⟨_, rfl⟩
    obtain ⟨kd, e_k⟩ : ∃ x, kdF t = x := ⟨_, rfl⟩
    obtain ⟨n, e_n⟩ : ∃ x, nF t = x := ⟨_, rfl⟩
    obtain ⟨G, e_G⟩ : ∃ x, gF t = x := ⟨_, rfl⟩
    obtain ⟨b, e_b⟩ : ∃ x, sumN t = x := ⟨_, rfl⟩
    simp only [e_si, e_di, e_k, e_n, e_G, e_b] at hP hsb hyy hpre x9 kb hnb h12 h16 s0 s1 d0 d1 hN r2 r7 hgz
    obtain ⟨pl, e_pl⟩ : ∃ x, plcI (byt t (atN t + 9)) = x := ⟨_, rfl⟩
    rw [e_pl] at hpl hsb
    have ewk : IntKind.i64.wrap kd = kd := IntWalk.i64_in _ ⟨by omega, by omega⟩
    have hA := fun u => specGet16_c t (A + 10) u ht ⟨by omega, by omega⟩
    have hBb := fun u => specGet16_c t b u ht ⟨by omega, by omega⟩
    obtain ⟨ga, e_ga⟩ : ∃ x, g16 t (A + 10) = x := ⟨_, rfl⟩
    obtain ⟨gb, e_gb⟩ : ∃ x, g16 t b = x := ⟨_, rfl⟩
    simp only [e_ga, e_gb] at hA hBb hpre
    have hbd2 : 20 ≤ b ∧ b ≤ 54 := by omega
    have hA2 : 14 ≤ A ∧ A ≤ 18 := by omega
    clear hA0 e_si e_di e_pl e_ga e_gb e_k e_n e_G e_20 hkk r1 r3 r4
    by_cases ha0 : ga = 0
    · by_cases hb0 : gb = 0
      · subst ha0
        subst hb0
        by_cases hlo : b + 2 - A ≤ n
        · by_cases hhi : n ≤ (t.size : Int) - A
          · have hnz := hgz (by omega) (by omega)
            have r8 := r7 (by omega) (by omega)
            have hH := fun u => specPseudoHeader_c si di kd (n - 20) u (by simp only [psB, Bool.and_eq_true]; exact ⟨⟨⟨inBi (by omega) (by omega), inBi (by omega) (by omega)⟩, inBi (by omega) (by omega)⟩, inBi (by omega) (by omega)⟩)
            rw [hnz] at hyy
            have zH : (psH si di kd (n - 20)).size = 12 := by simp only [psH, ByteArray.size_append, strOfNums_size, w32_size (inBi (show 0 ≤ si by omega) (by omega)), w32_size (inBi (show 0 ≤ di by omega) (by omega)), w16_size (inBi (show (0 : Int) ≤ n - 20 by omega) (by omega))]; rfl
            obtain ⟨H, e_H⟩ : ∃ x, psH si di kd (n - 20) = x := ⟨_, rfl⟩
            simp only [e_H] at hH zH hyy
            clear hgz r7 hpre e_H hpl hsb e_A hab r5
            have zHG : (H ++ G).size = 12 + G.size := by rw [ByteArray.size_append, zH]
            have hov : ¬ 9223372036854775807 < 12 + G.size := by omega
            have hK := fun u => specChecksum_c (H ++ G) u (by omega)
            have yb := chk_bd (H ++ G)
            obtain ⟨x, e_x⟩ : ∃ x, chk (H ++ G) = x := ⟨_, rfl⟩
            simp only [e_x] at hK yb hyy
            have hC2 := fun u => specChecksum_c B20 u (by omega)
            have xb := chk_bd B20
            obtain ⟨xx, e_xx⟩ : ∃ x, chk B20 = x := ⟨_, rfl⟩
            simp only [e_xx] at hC2 xb hxx
            have hW1 := fun u => specWord16_c xx u ⟨by omega, by omega⟩
            have zwx := w16_size (v := xx) (inBi (by omega) (by omega))
            obtain ⟨wx, e_wx⟩ : ∃ x, w16 xx = x := ⟨_, rfl⟩
            simp only [e_wx] at hW1 zwx
            have hP1 := fun u => specPutBytes_c t wx (A + 10) u (by omega) (by omega) ⟨by omega, by omega⟩
            have zP := putB_size t (A + 10) wx
            obtain ⟨t1, e_t1⟩ : ∃ x, putB t (A + 10) wx = x := ⟨_, rfl⟩
            simp only [e_t1] at hP1 zP
            clear e_xx e_x
            by_cases h17 : kd = 17
            · subst h17
              by_cases hx0 : x = 0
              · subst hx0
                rw [show fixS 17 0 = 65535 from rfl] at hyy
                have hW2 := fun u => specWord16_c 65535 u ⟨by omega, by omega⟩
                have zy := w16_size (v := 65535) (inBi (by omega) (by omega))
                have hP2 := fun u => specPutBytes_c t1 (w16 65535) b u (by omega) (by omega) ⟨by omega, by omega⟩
                have z2 := putB_size t1 b (w16 65535)
                obtain ⟨wy, e_wy⟩ : ∃ z, w16 65535 = z := ⟨_, rfl⟩
                obtain ⟨t2, e_t2⟩ : ∃ z, putB t1 b wy = z := ⟨_, rfl⟩
                simp only [e_wy, e_t2] at hW2 hP2 zy z2
                have hf : fillT t = t2 := by rw [fillT, e_a, e_b, hxx, hyy, e_wx, e_t1, e_wy, e_t2]
                have hR := fun u => specReadImage_c t2 u (by omega)
                clear zwx zy e_wy e_t2 zP
                by_cases hc : rdC t2 = 0
                · have hq : rdQ t2 = rdP t2 := by rw [rdQ, hc, if_pos rfl]
                  have hsp := rdC_bd hc
                  have hgd : goodF t = ((tmplS (rdP t2)).toList == t.toList) := by rw [goodF, hf, hc]; rfl
                  have hou := fun h : goodF t = true => outF_yes h
                  rw [hf] at hou
                  obtain ⟨p, e_p⟩ : ∃ p, rdP t2 = p := ⟨_, rfl⟩
                  rw [e_p] at hq hsp hgd hou
                  simp only [hq, hc] at hR
                  obtain ⟨⟨_, _, hbz⟩, _⟩ := segB_t (superB_t hsp).2.2
                  have hT := fun u => specTemplate_c p u (by omega)
                  have hB := fun u => specBuildImage_c p u (by omega)
                  simp only [hsp, if_true] at hT hB
                  obtain ⟨tm, e_tm⟩ : ∃ x, tmplS p = x := ⟨_, rfl⟩
                  simp only [e_tm] at hT hgd
                  cases he : tm.toList == t.toList
                  · have hg : goodF t = false := by rw [hgd, he]
                    rw [hg, outF_no hg]
                    clear hg
                    clear hgd hou hsp hq hf e_p e_tm hc
                    exact specFS_atn t w hP hA hBb hN hC2 h12 h16 hH hK hW1 hP1 hW2 hP2 ht hsz hA2 hbd2 r2 hnb hlo hhi r6 r8 hnz zH hR hT he
                  · have hg : goodF t = true := by rw [hgd, he]
                    rw [hg, hou hg]
                    clear hg hgd hou hsp hq hf e_p e_tm hc
                    exact specFS_aok t w hP hA hBb hN hC2 h12 h16 hH hK hW1 hP1 hW2 hP2 ht hsz hA2 hbd2 r2 hnb hlo hhi r6 r8 hnz zH hR hT hB he
                · have hq : rdQ t2 = zeroP := by rw [rdQ, if_neg hc]
                  simp only [hq, zeroP] at hR
                  obtain ⟨c, e_c⟩ : ∃ c, rdC t2 = c := ⟨_, rfl⟩
                  simp only [e_c] at hR
                  have hg : goodF t = false := by rw [goodF, hf, decide_eq_false (by omega)]; rfl
                  rw [hg, outF_no hg]
                  clear hg
                  rw [e_c] at hc
                  clear hq hf e_c
                  exact specFS_ar0 t w hP hA hBb hN hC2 h12 h16 hH hK hW1 hP1 hW2 hP2 ht hsz hA2 hbd2 r2 hnb hlo hhi r6 r8 hnz zH hR hc
              · rw [show fixS 17 x = x from if_neg (fun h => hx0 h.2)] at hyy
                have hW2 := fun u => specWord16_c x u ⟨by omega, by omega⟩
                have zy := w16_size (v := x) (inBi (by omega) (by omega))
                have hP2 := fun u => specPutBytes_c t1 (w16 x) b u (by omega) (by omega) ⟨by omega, by omega⟩
                have z2 := putB_size t1 b (w16 x)
                obtain ⟨wy, e_wy⟩ : ∃ z, w16 x = z := ⟨_, rfl⟩
                obtain ⟨t2, e_t2⟩ : ∃ z, putB t1 b wy = z := ⟨_, rfl⟩
                simp only [e_wy, e_t2] at hW2 hP2 zy z2
                have hf : fillT t = t2 := by rw [fillT, e_a, e_b, hxx, hyy, e_wx, e_t1, e_wy, e_t2]
                have hR := fun u => specReadImage_c t2 u (by omega)
                clear zwx zy e_wy e_t2 zP
                by_cases hc : rdC t2 = 0
                · have hq : rdQ t2 = rdP t2 := by rw [rdQ, hc, if_pos rfl]
                  have hsp := rdC_bd hc
                  have hgd : goodF t = ((tmplS (rdP t2)).toList == t.toList) := by rw [goodF, hf, hc]; rfl
                  have hou := fun h : goodF t = true => outF_yes h
                  rw [hf] at hou
                  obtain ⟨p, e_p⟩ : ∃ p, rdP t2 = p := ⟨_, rfl⟩
                  rw [e_p] at hq hsp hgd hou
                  simp only [hq, hc] at hR
                  obtain ⟨⟨_, _, hbz⟩, _⟩ := segB_t (superB_t hsp).2.2
                  have hT := fun u => specTemplate_c p u (by omega)
                  have hB := fun u => specBuildImage_c p u (by omega)
                  simp only [hsp, if_true] at hT hB
                  obtain ⟨tm, e_tm⟩ : ∃ x, tmplS p = x := ⟨_, rfl⟩
                  simp only [e_tm] at hT hgd
                  cases he : tm.toList == t.toList
                  · have hg : goodF t = false := by rw [hgd, he]
                    rw [hg, outF_no hg]
                    clear hg
                    clear hgd hou hsp hq hf e_p e_tm hc
                    exact specFS_btn t w hP hA hBb hN hC2 h12 h16 hH hK hW1 hP1 hW2 hP2 ht hsz hA2 hbd2 r2 hnb hlo hhi r6 r8 hnz zH hx0 hR hT he
                  · have hg : goodF t = true := by rw [hgd, he]
                    rw [hg, hou hg]
                    clear hg hgd hou hsp hq hf e_p e_tm hc
                    exact specFS_bok t w hP hA hBb hN hC2 h12 h16 hH hK hW1 hP1 hW2 hP2 ht hsz hA2 hbd2 r2 hnb hlo hhi r6 r8 hnz zH hx0 hR hT hB he
                · have hq : rdQ t2 = zeroP := by rw [rdQ, if_neg hc]
                  simp only [hq, zeroP] at hR
                  obtain ⟨c, e_c⟩ : ∃ c, rdC t2 = c := ⟨_, rfl⟩
                  simp only [e_c] at hR
                  have hg : goodF t = false := by rw [goodF, hf, decide_eq_false (by omega)]; rfl
                  rw [hg, outF_no hg]
                  clear hg
                  rw [e_c] at hc
                  clear hq hf e_c
                  exact specFS_br0 t w hP hA hBb hN hC2 h12 h16 hH hK hW1 hP1 hW2 hP2 ht hsz hA2 hbd2 r2 hnb hlo hhi r6 r8 hnz zH hx0 hR hc
            · rw [show fixS kd x = x from if_neg (fun h => h17 h.1)] at hyy
              by_cases hx0 : x = 0
              · subst hx0
                have hW2 := fun u => specWord16_c 0 u ⟨by omega, by omega⟩
                have zy := w16_size (v := 0) (inBi (by omega) (by omega))
                have hP2 := fun u => specPutBytes_c t1 (w16 0) b u (by omega) (by omega) ⟨by omega, by omega⟩
                have z2 := putB_size t1 b (w16 0)
                obtain ⟨wy, e_wy⟩ : ∃ z, w16 0 = z := ⟨_, rfl⟩
                obtain ⟨t2, e_t2⟩ : ∃ z, putB t1 b wy = z := ⟨_, rfl⟩
                simp only [e_wy, e_t2] at hW2 hP2 zy z2
                have hf : fillT t = t2 := by rw [fillT, e_a, e_b, hxx, hyy, e_wx, e_t1, e_wy, e_t2]
                have hR := fun u => specReadImage_c t2 u (by omega)
                clear zwx zy e_wy e_t2 zP
                by_cases hc : rdC t2 = 0
                · have hq : rdQ t2 = rdP t2 := by rw [rdQ, hc, if_pos rfl]
                  have hsp := rdC_bd hc
                  have hgd : goodF t = ((tmplS (rdP t2)).toList == t.toList) := by rw [goodF, hf, hc]; rfl
                  have hou := fun h : goodF t = true => outF_yes h
                  rw [hf] at hou
                  obtain ⟨p, e_p⟩ : ∃ p, rdP t2 = p := ⟨_, rfl⟩
                  rw [e_p] at hq hsp hgd hou
                  simp only [hq, hc] at hR
                  obtain ⟨⟨_, _, hbz⟩, _⟩ := segB_t (superB_t hsp).2.2
                  have hT := fun u => specTemplate_c p u (by omega)
                  have hB := fun u => specBuildImage_c p u (by omega)
                  simp only [hsp, if_true] at hT hB
                  obtain ⟨tm, e_tm⟩ : ∃ x, tmplS p = x := ⟨_, rfl⟩
                  simp only [e_tm] at hT hgd
                  cases he : tm.toList == t.toList
                  · have hg : goodF t = false := by rw [hgd, he]
                    rw [hg, outF_no hg]
                    clear hg
                    clear hgd hou hsp hq hf e_p e_tm hc
                    exact specFS_dtn t w hP hA hBb hN hC2 h12 h16 hH hK hW1 hP1 hW2 hP2 ht hsz hA2 hbd2 r2 hnb hlo hhi r6 r8 hnz zH h17 hR hT he
                  · have hg : goodF t = true := by rw [hgd, he]
                    rw [hg, hou hg]
                    clear hg hgd hou hsp hq hf e_p e_tm hc
                    exact specFS_dok t w hP hA hBb hN hC2 h12 h16 hH hK hW1 hP1 hW2 hP2 ht hsz hA2 hbd2 r2 hnb hlo hhi r6 r8 hnz zH h17 hR hT hB he
                · have hq : rdQ t2 = zeroP := by rw [rdQ, if_neg hc]
                  simp only [hq, zeroP] at hR
                  obtain ⟨c, e_c⟩ : ∃ c, rdC t2 = c := ⟨_, rfl⟩
                  simp only [e_c] at hR
                  have hg : goodF t = false := by rw [goodF, hf, decide_eq_false (by omega)]; rfl
                  rw [hg, outF_no hg]
                  clear hg
                  rw [e_c] at hc
                  clear hq hf e_c
                  exact specFS_dr0 t w hP hA hBb hN hC2 h12 h16 hH hK hW1 hP1 hW2 hP2 ht hsz hA2 hbd2 r2 hnb hlo hhi r6 r8 hnz zH h17 hR hc
              · have hW2 := fun u => specWord16_c x u ⟨by omega, by omega⟩
                have zy := w16_size (v := x) (inBi (by omega) (by omega))
                have hP2 := fun u => specPutBytes_c t1 (w16 x) b u (by omega) (by omega) ⟨by omega, by omega⟩
                have z2 := putB_size t1 b (w16 x)
                obtain ⟨wy, e_wy⟩ : ∃ z, w16 x = z := ⟨_, rfl⟩
                obtain ⟨t2, e_t2⟩ : ∃ z, putB t1 b wy = z := ⟨_, rfl⟩
                simp only [e_wy, e_t2] at hW2 hP2 zy z2
                have hf : fillT t = t2 := by rw [fillT, e_a, e_b, hxx, hyy, e_wx, e_t1, e_wy, e_t2]
                have hR := fun u => specReadImage_c t2 u (by omega)
                clear zwx zy e_wy e_t2 zP
                by_cases hc : rdC t2 = 0
                · have hq : rdQ t2 = rdP t2 := by rw [rdQ, hc, if_pos rfl]
                  have hsp := rdC_bd hc
                  have hgd : goodF t = ((tmplS (rdP t2)).toList == t.toList) := by rw [goodF, hf, hc]; rfl
                  have hou := fun h : goodF t = true => outF_yes h
                  rw [hf] at hou
                  obtain ⟨p, e_p⟩ : ∃ p, rdP t2 = p := ⟨_, rfl⟩
                  rw [e_p] at hq hsp hgd hou
                  simp only [hq, hc] at hR
                  obtain ⟨⟨_, _, hbz⟩, _⟩ := segB_t (superB_t hsp).2.2
                  have hT := fun u => specTemplate_c p u (by omega)
                  have hB := fun u => specBuildImage_c p u (by omega)
                  simp only [hsp, if_true] at hT hB
                  obtain ⟨tm, e_tm⟩ : ∃ x, tmplS p = x := ⟨_, rfl⟩
                  simp only [e_tm] at hT hgd
                  cases he : tm.toList == t.toList
                  · have hg : goodF t = false := by rw [hgd, he]
                    rw [hg, outF_no hg]
                    clear hg
                    clear hgd hou hsp hq hf e_p e_tm hc
                    exact specFS_ctn t w hP hA hBb hN hC2 h12 h16 hH hK hW1 hP1 hW2 hP2 ht hsz hA2 hbd2 r2 hnb hlo hhi r6 r8 hnz zH h17 hx0 hR hT he
                  · have hg : goodF t = true := by rw [hgd, he]
                    rw [hg, hou hg]
                    clear hg hgd hou hsp hq hf e_p e_tm hc
                    exact specFS_cok t w hP hA hBb hN hC2 h12 h16 hH hK hW1 hP1 hW2 hP2 ht hsz hA2 hbd2 r2 hnb hlo hhi r6 r8 hnz zH h17 hx0 hR hT hB he
                · have hq : rdQ t2 = zeroP := by rw [rdQ, if_neg hc]
                  simp only [hq, zeroP] at hR
                  obtain ⟨c, e_c⟩ : ∃ c, rdC t2 = c := ⟨_, rfl⟩
                  simp only [e_c] at hR
                  have hg : goodF t = false := by rw [goodF, hf, decide_eq_false (by omega)]; rfl
                  rw [hg, outF_no hg]
                  clear hg
                  rw [e_c] at hc
                  clear hq hf e_c
                  exact specFS_cr0 t w hP hA hBb hN hC2 h12 h16 hH hK hW1 hP1 hW2 hP2 ht hsz hA2 hbd2 r2 hnb hlo hhi r6 r8 hnz zH h17 hx0 hR hc
          · have hg : goodF t = false := not_goodS (hpre True (fun h => hhi h.2.2.2))
            rw [hg, outF_no hg]
            clear hg
            clear hpre hgz r7
            exact specFS_n1 t w hP hA hBb hN ht hsz hA2 hbd2 r2 hnb hlo hhi
        · have hg : goodF t = false := not_goodS (hpre True (fun h => hlo h.2.2.1))
          rw [hg, outF_no hg]
          clear hg
          clear hpre hgz r7
          exact specFS_n0 t w hP hA hBb hN ht hsz hA2 hbd2 r2 hnb hlo
      · have hg : goodF t = false := not_goodS (hpre True (fun h => hb0 h.2.1))
        rw [hg, outF_no hg]
        clear hg
        clear hpre hgz r7
        subst ha0
        exact specFS_b1 t w hP hA hBb hb0 hA2
    · have hg : goodF t = false := not_goodS (hpre True (fun h => ha0 h.1))
      rw [hg, outF_no hg]
      clear hg
      clear hpre hgz r7
      exact specFS_a1 t w hP hA ha0 hA2
  · have hP := fun u => specPlaces0_c t u ht hl
    have hg : goodF t = false := not_goodS (fun h => hl h.1)
    rw [hg, outF_no hg]
    clear hg
    exact specFS_s0 t w hP
end Go.Proofs.Ytifbfmafogmemaa
