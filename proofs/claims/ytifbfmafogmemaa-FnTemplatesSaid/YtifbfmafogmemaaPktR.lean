/- Contracts of ParseSegment: impl and spec. -/
import Derived.Test.YtifbfmafogmemaaPktF
import Derived.Test.YtifbfmafogmemaaPktP
import Derived.Test.YtifbfmafogmemaaPktR0
namespace Go.Proofs.Ytifbfmafogmemaa
set_option linter.unusedSimpArgs false
set_option linter.unusedVariables false
open Go.RowKit Go.ChangeShapes Go.WideShapes
set_option maxRecDepth 100000 in
set_option maxHeartbeats 4000000 in
theorem implParseSegment_c (si di kd : Int) (s : ByteArray) (w : World) (hs : s.size ≤ 1048576) (hsi : inB si 0 4294967295 = true) (hdi : inB di 0 4294967295 = true) :
    Calls Try.prog 75 #[.int .i64 si, .int .i64 di, .int .i64 kd, .string s] w fun e w' => e = .returned (.tuple #[.agg #[.int .i64 (sgI si di kd s kd), .int .i64 (sgI si di kd s (g16 s 0)), .int .i64 (sgI si di kd s (g16 s 2)), .int .i64 (sgI si di kd s (sqR kd s)), .int .i64 (sgI si di kd s (akR kd s)), .int .i64 (sgI si di kd s (flR kd s)), .int .i64 (sgI si di kd s (wnR kd s)), .string (sgT si di kd s (bdR kd s))], .bool (okR si di kd s)]) ∧ Below w.heap.size w w' := by
  have ha := fun u => implGet16_c s 0 u hs ⟨by decide, by decide⟩
  have hc2 := fun u => implGet16_c s 2 u hs ⟨by decide, by decide⟩
  obtain ⟨a0, g0⟩ : ∃ a, g16 s 0 = a := ⟨_, rfl⟩
  obtain ⟨a1, g1⟩ : ∃ a, g16 s 2 = a := ⟨_, rfl⟩
  simp only [g0] at ha
  simp only [g1] at hc2
  by_cases h6 : kd = 6
  · subst h6
    by_cases h20 : 20 ≤ s.size
    · have h4 := fun u => implGet32_c s 4 u hs ⟨by decide, by decide⟩
      have h8 := fun u => implGet32_c s 8 u hs ⟨by decide, by decide⟩
      have h14 := fun u => implGet16_c s 14 u hs ⟨by decide, by decide⟩
      have z13 : (13 : Nat) < s.size := by omega
      have x13 := idxi (i := 13) (k := 13) rfl z13
      obtain ⟨y0, y1⟩ := byt_bd s 13
      have ew : IntKind.i64.wrap (byt s 13) = byt s 13 := IntWalk.i64_in _ ⟨by omega, by omega⟩
      have d1 : sqR 6 s = g32 s 4 := if_pos rfl
      have d2 : akR 6 s = g32 s 8 := if_pos rfl
      have d3 : flR 6 s = byt s 13 := if_pos rfl
      have d4 : wnR 6 s = g16 s 14 := if_pos rfl
      have d5 : bdR 6 s = s.extract 20 s.size := if_pos rfl
      obtain ⟨a2, ha2⟩ : ∃ a, g32 s 4 = a := ⟨_, rfl⟩
      obtain ⟨a3, ha3⟩ : ∃ a, g32 s 8 = a := ⟨_, rfl⟩
      obtain ⟨a4, ha4⟩ : ∃ a, g16 s 14 = a := ⟨_, rfl⟩
      simp only [ha2] at h4 d1
      simp only [ha3] at h8 d2
      simp only [ha4] at h14 d4
      clear ha2 ha3 ha4
      have ln : (20 : Int) ≤ (s.size : Int) := by omega
      have hBs : (s.extract 20 s.size).size ≤ 1048576 := by rw [ByteArray.size_extract]; omega
      obtain ⟨B, hB⟩ : ∃ B, s.extract 20 s.size = B := ⟨_, rfl⟩
      rw [hB] at d5 hBs
      have hcond : (tcpB 6 s || udpB 6 s) = true := by simp [tcpB, udpB]; omega
      have hbs := fun u => implBuildSegment_c si di 6 a0 a1 a2 a3 (byt s 13) a4 B u hBs hsi hdi
      simp only [d1, d2, d3, d4, d5, g0, g1]
      cases hsg : segB 6 a0 a1 a2 a3 (byt s 13) a4 B
      · have hok0 : okR si di 6 s = false := by rw [okR, hcond, d1, d2, d3, d4, d5, g0, g1, hsg]; rfl
        rw [hok0]
        simp only [sgI_no hok0, sgT_no hok0]
        simp only [hsg, Bool.false_eq_true, if_false] at hbs
        clear hcond hsg hok0 d1 d2 d3 d4 d5 g0 g1
        go_enter Try.func75, Try.ntmps75
        go_wp2_with fail
        have k0 : Below w.heap.size w (w.alloc (.cells #[.int .i64 0, .int .i64 0, .int .i64 0, .int .i64 0, .int .i64 0, .int .i64 0, .int .i64 0, .string ⟨#[]⟩] 29)) := by go_grown
        have bl0 : w.heap.size < (w.alloc (.cells #[.int .i64 0, .int .i64 0, .int .i64 0, .int .i64 0, .int .i64 0, .int .i64 0, .int .i64 0, .string ⟨#[]⟩] 29)).heap.size := by go_size
        have hk0 : Blk (w.alloc (.cells #[.int .i64 0, .int .i64 0, .int .i64 0, .int .i64 0, .int .i64 0, .int .i64 0, .int .i64 0, .string ⟨#[]⟩] 29)) (w.heap.size) 29 [.int .i64 0, .int .i64 0, .int .i64 0, .int .i64 0, .int .i64 0, .int .i64 0, .int .i64 0, .string ⟨#[]⟩] := by simpa using Blk.new w 29 [.int .i64 0, .int .i64 0, .int .i64 0, .int .i64 0, .int .i64 0, .int .i64 0, .int .i64 0, .string ⟨#[]⟩]
        have p0 := k0.size
        generalize hW0 : (w.alloc (.cells #[.int .i64 0, .int .i64 0, .int .i64 0, .int .i64 0, .int .i64 0, .int .i64 0, .int .i64 0, .string ⟨#[]⟩] 29)) = w0 at *
        clear hW0
        refine (ha _).mono ?_
        rintro e w1 ⟨rfl, hb⟩
        have k1 : Below w.heap.size w w1 := ext_step k0 (by omega) hb
        have p1 := hb.size
        replace hk0 := hk0.ext hb
        have bl0 := Nat.lt_of_lt_of_le bl0 hb.size
        clear hb
        go_wp2_with fail
        refine (hc2 _).mono ?_
        rintro e w2 ⟨rfl, hb⟩
        have k2 : Below w.heap.size w w2 := ext_step k1 (by omega) hb
        have p2 := hb.size
        replace hk0 := hk0.ext hb
        have bl0 := Nat.lt_of_lt_of_le bl0 hb.size
        clear hb
        go_wp2_with fail
        obtain ⟨w3, hW0⟩ : ∃ W, W = (w2.alloc (.cells #[.int .i64 6, .int .i64 a0, .int .i64 a1, .int .i64 0, .int .i64 0, .int .i64 0, .int .i64 0, .string ⟨#[]⟩] 29)) := ⟨_, rfl⟩
        have hb : Below w2.heap.size w2 w3 := by rw [hW0]; go_grown
        have bl1 : w2.heap.size < w3.heap.size := by rw [hW0]; go_size
        have hk1 : Blk w3 (w2.heap.size) 29 [.int .i64 6, .int .i64 a0, .int .i64 a1, .int .i64 0, .int .i64 0, .int .i64 0, .int .i64 0, .string ⟨#[]⟩] := by rw [hW0]; exact Blk.new _ _ _
        rw [← hW0]
        clear hW0
        have k3 := ext_step k2 (by omega) hb
        have p3 := hb.size
        replace hk0 := hk0.ext hb
        have bl0 := Nat.lt_of_lt_of_le bl0 hb.size
        clear hb
        refine (h4 _).mono ?_
        rintro e w4 ⟨rfl, hb⟩
        have k4 : Below w.heap.size w w4 := ext_step k3 (by omega) hb
        have p4 := hb.size
        replace hk0 := hk0.ext hb
        replace hk1 := hk1.ext hb
        have bl0 := Nat.lt_of_lt_of_le bl0 hb.size
        have bl1 := Nat.lt_of_lt_of_le bl1 hb.size
        clear hb
        have bx1_3 := hk1.at_ 3 _ rfl
        have fz1_3 := hk1.frozen 3
        go_wp2_with fail
        have hc : ChgA (w2.heap.size) w4 (w4.setCell ⟨w2.heap.size, 3, none⟩ (.int .i64 a2)) := (ChgA.refl _ _).set _ _
        have hko := hk1
        replace hk0 := hk0.chgA hc (by omega)
        replace hk1 : Blk (w4.setCell ⟨w2.heap.size, 3, none⟩ (.int .i64 a2)) (w2.heap.size) 29 [.int .i64 6, .int .i64 a0, .int .i64 a1, .int .i64 a2, .int .i64 0, .int .i64 0, .int .i64 0, .string ⟨#[]⟩] := hk1.set_ 3 _
        have k5 : Below w.heap.size w (w4.setCell ⟨w2.heap.size, 3, none⟩ (.int .i64 a2)) := hc.below (by omega) k4
        have p5 : (w4.setCell ⟨w2.heap.size, 3, none⟩ (.int .i64 a2)).heap.size = w4.heap.size := hc.size
        have bl0 := Nat.lt_of_lt_of_le bl0 (Nat.le_of_eq p5.symm)
        have bl1 := Nat.lt_of_lt_of_le bl1 (Nat.le_of_eq p5.symm)
        generalize hW0 : (w4.setCell ⟨w2.heap.size, 3, none⟩ (.int .i64 a2)) = w5 at *
        clear hW0 hc hko
        clear bx1_3 fz1_3
        refine (h8 _).mono ?_
        rintro e w6 ⟨rfl, hb⟩
        have k6 : Below w.heap.size w w6 := ext_step k5 (by omega) hb
        have p6 := hb.size
        replace hk0 := hk0.ext hb
        replace hk1 := hk1.ext hb
        have bl0 := Nat.lt_of_lt_of_le bl0 hb.size
        have bl1 := Nat.lt_of_lt_of_le bl1 hb.size
        clear hb
        have bx1_4 := hk1.at_ 4 _ rfl
        have fz1_4 := hk1.frozen 4
        have bx1_5 := hk1.at_ 5 _ rfl
        have fz1_5 := hk1.frozen 5
        go_wp2_with fail
        have hc : ChgA (w2.heap.size) w6 (w6.setCell ⟨w2.heap.size, 4, none⟩ (.int .i64 a3)) := (ChgA.refl _ _).set _ _
        have hko := hk1
        replace hk0 := hk0.chgA hc (by omega)
        replace hk1 : Blk (w6.setCell ⟨w2.heap.size, 4, none⟩ (.int .i64 a3)) (w2.heap.size) 29 [.int .i64 6, .int .i64 a0, .int .i64 a1, .int .i64 a2, .int .i64 a3, .int .i64 0, .int .i64 0, .string ⟨#[]⟩] := hk1.set_ 4 _
        have k7 : Below w.heap.size w (w6.setCell ⟨w2.heap.size, 4, none⟩ (.int .i64 a3)) := hc.below (by omega) k6
        have p7 : (w6.setCell ⟨w2.heap.size, 4, none⟩ (.int .i64 a3)).heap.size = w6.heap.size := hc.size
        have bl0 := Nat.lt_of_lt_of_le bl0 (Nat.le_of_eq p7.symm)
        have bl1 := Nat.lt_of_lt_of_le bl1 (Nat.le_of_eq p7.symm)
        generalize hW0 : (w6.setCell ⟨w2.heap.size, 4, none⟩ (.int .i64 a3)) = w7 at *
        clear hW0 hc hko
        clear bx1_4 fz1_4 bx1_5 fz1_5
        have hc : ChgA (w2.heap.size) w7 (w7.setCell ⟨w2.heap.size, 5, none⟩ (.int .i64 (byt s 13))) := (ChgA.refl _ _).set _ _
        have hko := hk1
        replace hk0 := hk0.chgA hc (by omega)
        replace hk1 : Blk (w7.setCell ⟨w2.heap.size, 5, none⟩ (.int .i64 (byt s 13))) (w2.heap.size) 29 [.int .i64 6, .int .i64 a0, .int .i64 a1, .int .i64 a2, .int .i64 a3, .int .i64 (byt s 13), .int .i64 0, .string ⟨#[]⟩] := hk1.set_ 5 _
        have k8 : Below w.heap.size w (w7.setCell ⟨w2.heap.size, 5, none⟩ (.int .i64 (byt s 13))) := hc.below (by omega) k7
        have p8 : (w7.setCell ⟨w2.heap.size, 5, none⟩ (.int .i64 (byt s 13))).heap.size = w7.heap.size := hc.size
        have bl0 := Nat.lt_of_lt_of_le bl0 (Nat.le_of_eq p8.symm)
        have bl1 := Nat.lt_of_lt_of_le bl1 (Nat.le_of_eq p8.symm)
        generalize hW0 : (w7.setCell ⟨w2.heap.size, 5, none⟩ (.int .i64 (byt s 13))) = w8 at *
        clear hW0 hc hko
        refine (h14 _).mono ?_
        rintro e w9 ⟨rfl, hb⟩
        have k9 : Below w.heap.size w w9 := ext_step k8 (by omega) hb
        have p9 := hb.size
        replace hk0 := hk0.ext hb
        replace hk1 := hk1.ext hb
        have bl0 := Nat.lt_of_lt_of_le bl0 hb.size
        have bl1 := Nat.lt_of_lt_of_le bl1 hb.size
        clear hb
        have bx1_0 := hk1.at_ 0 _ rfl
        have fz1_0 := hk1.frozen 0
        have bx1_1 := hk1.at_ 1 _ rfl
        have fz1_1 := hk1.frozen 1
        have bx1_2 := hk1.at_ 2 _ rfl
        have fz1_2 := hk1.frozen 2
        have bx1_3 := hk1.at_ 3 _ rfl
        have fz1_3 := hk1.frozen 3
        have bx1_4 := hk1.at_ 4 _ rfl
        have fz1_4 := hk1.frozen 4
        have bx1_5 := hk1.at_ 5 _ rfl
        have fz1_5 := hk1.frozen 5
        have bx1_6 := hk1.at_ 6 _ rfl
        have fz1_6 := hk1.frozen 6
        have bx1_7 := hk1.at_ 7 _ rfl
        have fz1_7 := hk1.frozen 7
        go_wp2_with fail
        have hc : ChgA (w2.heap.size) w9 (w9.setCell ⟨w2.heap.size, 6, none⟩ (.int .i64 a4)) := (ChgA.refl _ _).set _ _
        have hko := hk1
        replace hk0 := hk0.chgA hc (by omega)
        replace hk1 : Blk (w9.setCell ⟨w2.heap.size, 6, none⟩ (.int .i64 a4)) (w2.heap.size) 29 [.int .i64 6, .int .i64 a0, .int .i64 a1, .int .i64 a2, .int .i64 a3, .int .i64 (byt s 13), .int .i64 a4, .string ⟨#[]⟩] := hk1.set_ 6 _
        have k10 : Below w.heap.size w (w9.setCell ⟨w2.heap.size, 6, none⟩ (.int .i64 a4)) := hc.below (by omega) k9
        have p10 : (w9.setCell ⟨w2.heap.size, 6, none⟩ (.int .i64 a4)).heap.size = w9.heap.size := hc.size
        have bl0 := Nat.lt_of_lt_of_le bl0 (Nat.le_of_eq p10.symm)
        have bl1 := Nat.lt_of_lt_of_le bl1 (Nat.le_of_eq p10.symm)
        generalize hW0 : (w9.setCell ⟨w2.heap.size, 6, none⟩ (.int .i64 a4)) = w10 at *
        clear hW0 hc hko
        clear bx1_0 fz1_0 bx1_1 fz1_1 bx1_2 fz1_2 bx1_3 fz1_3 bx1_4 fz1_4 bx1_5 fz1_5 bx1_6 fz1_6 bx1_7 fz1_7
        have hc : ChgA (w2.heap.size) w10 (w10.setCell ⟨w2.heap.size, 7, none⟩ (.string B)) := (ChgA.refl _ _).set _ _
        have hko := hk1
        replace hk0 := hk0.chgA hc (by omega)
        replace hk1 : Blk (w10.setCell ⟨w2.heap.size, 7, none⟩ (.string B)) (w2.heap.size) 29 [.int .i64 6, .int .i64 a0, .int .i64 a1, .int .i64 a2, .int .i64 a3, .int .i64 (byt s 13), .int .i64 a4, .string B] := hk1.set_ 7 _
        have k11 : Below w.heap.size w (w10.setCell ⟨w2.heap.size, 7, none⟩ (.string B)) := hc.below (by omega) k10
        have p11 : (w10.setCell ⟨w2.heap.size, 7, none⟩ (.string B)).heap.size = w10.heap.size := hc.size
        have bl0 := Nat.lt_of_lt_of_le bl0 (Nat.le_of_eq p11.symm)
        have bl1 := Nat.lt_of_lt_of_le bl1 (Nat.le_of_eq p11.symm)
        generalize hW0 : (w10.setCell ⟨w2.heap.size, 7, none⟩ (.string B)) = w11 at *
        clear hW0 hc hko
        clear ew x13 h4 h8 h14
        refine (hbs _).mono ?_
        rintro e w12 ⟨rfl, hb⟩
        have k12 : Below w.heap.size w w12 := ext_step k11 (by omega) hb
        have p12 := hb.size
        replace hk0 := hk0.ext hb
        replace hk1 := hk1.ext hb
        have bl0 := Nat.lt_of_lt_of_le bl0 hb.size
        have bl1 := Nat.lt_of_lt_of_le bl1 hb.size
        clear hb
        clear  hk1
        have bx0_0 := hk0.at_ 0 _ rfl
        have fz0_0 := hk0.frozen 0
        have bx0_1 := hk0.at_ 1 _ rfl
        have fz0_1 := hk0.frozen 1
        have bx0_2 := hk0.at_ 2 _ rfl
        have fz0_2 := hk0.frozen 2
        have bx0_3 := hk0.at_ 3 _ rfl
        have fz0_3 := hk0.frozen 3
        have bx0_4 := hk0.at_ 4 _ rfl
        have fz0_4 := hk0.frozen 4
        have bx0_5 := hk0.at_ 5 _ rfl
        have fz0_5 := hk0.frozen 5
        have bx0_6 := hk0.at_ 6 _ rfl
        have fz0_6 := hk0.frozen 6
        have bx0_7 := hk0.at_ 7 _ rfl
        have fz0_7 := hk0.frozen 7
        go_wp2_with fail
        have hcc := ChgA.refl (w.heap.size) w12
        obtain ⟨w13_0, hW0⟩ : ∃ W, W = w12.setCell ⟨w.heap.size, 0, none⟩ (.int .i64 0) := ⟨_, rfl⟩
        replace hcc : ChgA (w.heap.size) w12 w13_0 := by rw [hW0]; exact hcc.set _ _
        replace hk0 : Blk w13_0 (w.heap.size) 29 [.int .i64 0, .int .i64 0, .int .i64 0, .int .i64 0, .int .i64 0, .int .i64 0, .int .i64 0, .string ⟨#[]⟩] := by rw [hW0]; exact hk0.set_ 0 _
        rw [← hW0]
        clear hW0
        obtain ⟨w13_1, hW0⟩ : ∃ W, W = w13_0.setCell ⟨w.heap.size, 1, none⟩ (.int .i64 0) := ⟨_, rfl⟩
        replace hcc : ChgA (w.heap.size) w12 w13_1 := by rw [hW0]; exact hcc.set _ _
        replace hk0 : Blk w13_1 (w.heap.size) 29 [.int .i64 0, .int .i64 0, .int .i64 0, .int .i64 0, .int .i64 0, .int .i64 0, .int .i64 0, .string ⟨#[]⟩] := by rw [hW0]; exact hk0.set_ 1 _
        rw [← hW0]
        clear hW0
        obtain ⟨w13_2, hW0⟩ : ∃ W, W = w13_1.setCell ⟨w.heap.size, 2, none⟩ (.int .i64 0) := ⟨_, rfl⟩
        replace hcc : ChgA (w.heap.size) w12 w13_2 := by rw [hW0]; exact hcc.set _ _
        replace hk0 : Blk w13_2 (w.heap.size) 29 [.int .i64 0, .int .i64 0, .int .i64 0, .int .i64 0, .int .i64 0, .int .i64 0, .int .i64 0, .string ⟨#[]⟩] := by rw [hW0]; exact hk0.set_ 2 _
        rw [← hW0]
        clear hW0
        obtain ⟨w13_3, hW0⟩ : ∃ W, W = w13_2.setCell ⟨w.heap.size, 3, none⟩ (.int .i64 0) := ⟨_, rfl⟩
        replace hcc : ChgA (w.heap.size) w12 w13_3 := by rw [hW0]; exact hcc.set _ _
        replace hk0 : Blk w13_3 (w.heap.size) 29 [.int .i64 0, .int .i64 0, .int .i64 0, .int .i64 0, .int .i64 0, .int .i64 0, .int .i64 0, .string ⟨#[]⟩] := by rw [hW0]; exact hk0.set_ 3 _
        rw [← hW0]
        clear hW0
        obtain ⟨w13_4, hW0⟩ : ∃ W, W = w13_3.setCell ⟨w.heap.size, 4, none⟩ (.int .i64 0) := ⟨_, rfl⟩
        replace hcc : ChgA (w.heap.size) w12 w13_4 := by rw [hW0]; exact hcc.set _ _
        replace hk0 : Blk w13_4 (w.heap.size) 29 [.int .i64 0, .int .i64 0, .int .i64 0, .int .i64 0, .int .i64 0, .int .i64 0, .int .i64 0, .string ⟨#[]⟩] := by rw [hW0]; exact hk0.set_ 4 _
        rw [← hW0]
        clear hW0
        obtain ⟨w13_5, hW0⟩ : ∃ W, W = w13_4.setCell ⟨w.heap.size, 5, none⟩ (.int .i64 0) := ⟨_, rfl⟩
        replace hcc : ChgA (w.heap.size) w12 w13_5 := by rw [hW0]; exact hcc.set _ _
        replace hk0 : Blk w13_5 (w.heap.size) 29 [.int .i64 0, .int .i64 0, .int .i64 0, .int .i64 0, .int .i64 0, .int .i64 0, .int .i64 0, .string ⟨#[]⟩] := by rw [hW0]; exact hk0.set_ 5 _
        rw [← hW0]
        clear hW0
        obtain ⟨w13_6, hW0⟩ : ∃ W, W = w13_5.setCell ⟨w.heap.size, 6, none⟩ (.int .i64 0) := ⟨_, rfl⟩
        replace hcc : ChgA (w.heap.size) w12 w13_6 := by rw [hW0]; exact hcc.set _ _
        replace hk0 : Blk w13_6 (w.heap.size) 29 [.int .i64 0, .int .i64 0, .int .i64 0, .int .i64 0, .int .i64 0, .int .i64 0, .int .i64 0, .string ⟨#[]⟩] := by rw [hW0]; exact hk0.set_ 6 _
        rw [← hW0]
        clear hW0
        obtain ⟨w13, hW0⟩ : ∃ W, W = w13_6.setCell ⟨w.heap.size, 7, none⟩ (.string ⟨#[]⟩) := ⟨_, rfl⟩
        replace hcc : ChgA (w.heap.size) w12 w13 := by rw [hW0]; exact hcc.set _ _
        replace hk0 : Blk w13 (w.heap.size) 29 [.int .i64 0, .int .i64 0, .int .i64 0, .int .i64 0, .int .i64 0, .int .i64 0, .int .i64 0, .string ⟨#[]⟩] := by rw [hW0]; exact hk0.set_ 7 _
        rw [← hW0]
        clear hW0
        have hc := hcc
        have k13 := hc.below (by omega) k12
        have p13 := hc.size
        replace bl0 := Nat.lt_of_lt_of_le bl0 (Nat.le_of_eq p13.symm)
        replace bl1 := Nat.lt_of_lt_of_le bl1 (Nat.le_of_eq p13.symm)
        clear hc hcc
        clear bx0_0 fz0_0 bx0_1 fz0_1 bx0_2 fz0_2 bx0_3 fz0_3 bx0_4 fz0_4 bx0_5 fz0_5 bx0_6 fz0_6 bx0_7 fz0_7
        have bx0_0 := hk0.at_ 0 _ rfl
        have bx0_1 := hk0.at_ 1 _ rfl
        have bx0_2 := hk0.at_ 2 _ rfl
        have bx0_3 := hk0.at_ 3 _ rfl
        have bx0_4 := hk0.at_ 4 _ rfl
        have bx0_5 := hk0.at_ 5 _ rfl
        have bx0_6 := hk0.at_ 6 _ rfl
        have bx0_7 := hk0.at_ 7 _ rfl
        refine bodyPost_ret (v := .tuple #[.agg #[.int .i64 0, .int .i64 0, .int .i64 0, .int .i64 0, .int .i64 0, .int .i64 0, .int .i64 0, .string ⟨#[]⟩], .bool false]) (by simp [results, Try.results75, go_sem, bx0_0, bx0_1, bx0_2, bx0_3, bx0_4, bx0_5, bx0_6, bx0_7]) rfl ?_
        exact ⟨rfl, k13⟩
      · simp only [hsg, if_true] at hbs
        obtain ⟨P, hP⟩ : ∃ P, segS si di 6 a0 a1 a2 a3 (byt s 13) a4 B = P := ⟨_, rfl⟩
        simp only [hP] at hbs
        cases hc : P.toList == s.toList
        · have hok0 : okR si di 6 s = false := by rw [okR, hcond, d1, d2, d3, d4, d5, g0, g1, hsg, hP, hc]; rfl
          rw [hok0]
          simp only [sgI_no hok0, sgT_no hok0]
          clear hcond hsg hok0 hP d1 d2 d3 d4 d5 g0 g1
          go_enter Try.func75, Try.ntmps75
          go_wp2_with fail
          have k0 : Below w.heap.size w (w.alloc (.cells #[.int .i64 0, .int .i64 0, .int .i64 0, .int .i64 0, .int .i64 0, .int .i64 0, .int .i64 0, .string ⟨#[]⟩] 29)) := by go_grown
          have bl0 : w.heap.size < (w.alloc (.cells #[.int .i64 0, .int .i64 0, .int .i64 0, .int .i64 0, .int .i64 0, .int .i64 0, .int .i64 0, .string ⟨#[]⟩] 29)).heap.size := by go_size
          have hk0 : Blk (w.alloc (.cells #[.int .i64 0, .int .i64 0, .int .i64 0, .int .i64 0, .int .i64 0, .int .i64 0, .int .i64 0, .string ⟨#[]⟩] 29)) (w.heap.size) 29 [.int .i64 0, .int .i64 0, .int .i64 0, .int .i64 0, .int .i64 0, .int .i64 0, .int .i64 0, .string ⟨#[]⟩] := by simpa using Blk.new w 29 [.int .i64 0, .int .i64 0, .int .i64 0, .int .i64 0, .int .i64 0, .int .i64 0, .int .i64 0, .string ⟨#[]⟩]
          have p0 := k0.size
          generalize hW0 : (w.alloc (.cells #[.int .i64 0, .int .i64 0, .int .i64 0, .int .i64 0, .int .i64 0, .int .i64 0, .int .i64 0, .string ⟨#[]⟩] 29)) = w0 at *
          clear hW0
          refine (ha _).mono ?_
          rintro e w1 ⟨rfl, hb⟩
          have k1 : Below w.heap.size w w1 := ext_step k0 (by omega) hb
          have p1 := hb.size
          replace hk0 := hk0.ext hb
          have bl0 := Nat.lt_of_lt_of_le bl0 hb.size
          clear hb
          go_wp2_with fail
          refine (hc2 _).mono ?_
          rintro e w2 ⟨rfl, hb⟩
          have k2 : Below w.heap.size w w2 := ext_step k1 (by omega) hb
          have p2 := hb.size
          replace hk0 := hk0.ext hb
          have bl0 := Nat.lt_of_lt_of_le bl0 hb.size
          clear hb
          go_wp2_with fail
          obtain ⟨w3, hW0⟩ : ∃ W, W = (w2.alloc (.cells #[.int .i64 6, .int .i64 a0, .int .i64 a1, .int .i64 0, .int .i64 0, .int .i64 0, .int .i64 0, .string ⟨#[]⟩] 29)) := ⟨_, rfl⟩
          have hb : Below w2.heap.size w2 w3 := by rw [hW0]; go_grown
          have bl1 : w2.heap.size < w3.heap.size := by rw [hW0]; go_size
          have hk1 : Blk w3 (w2.heap.size) 29 [.int .i64 6, .int .i64 a0, .int .i64 a1, .int .i64 0, .int .i64 0, .int .i64 0, .int .i64 0, .string ⟨#[]⟩] := by rw [hW0]; exact Blk.new _ _ _
          rw [← hW0]
          clear hW0
          have k3 := ext_step k2 (by omega) hb
          have p3 := hb.size
          replace hk0 := hk0.ext hb
          have bl0 := Nat.lt_of_lt_of_le bl0 hb.size
          clear hb
          refine (h4 _).mono ?_
          rintro e w4 ⟨rfl, hb⟩
          have k4 : Below w.heap.size w w4 := ext_step k3 (by omega) hb
          have p4 := hb.size
          replace hk0 := hk0.ext hb
          replace hk1 := hk1.ext hb
          have bl0 := Nat.lt_of_lt_of_le bl0 hb.size
          have bl1 := Nat.lt_of_lt_of_le bl1 hb.size
          clear hb
          have bx1_3 := hk1.at_ 3 _ rfl
          have fz1_3 := hk1.frozen 3
          go_wp2_with fail
          have hc : ChgA (w2.heap.size) w4 (w4.setCell ⟨w2.heap.size, 3, none⟩ (.int .i64 a2)) := (ChgA.refl _ _).set _ _
          have hko := hk1
          replace hk0 := hk0.chgA hc (by omega)
          replace hk1 : Blk (w4.setCell ⟨w2.heap.size, 3, none⟩ (.int .i64 a2)) (w2.heap.size) 29 [.int .i64 6, .int .i64 a0, .int .i64 a1, .int .i64 a2, .int .i64 0, .int .i64 0, .int .i64 0, .string ⟨#[]⟩] := hk1.set_ 3 _
          have k5 : Below w.heap.size w (w4.setCell ⟨w2.heap.size, 3, none⟩ (.int .i64 a2)) := hc.below (by omega) k4
          have p5 : (w4.setCell ⟨w2.heap.size, 3, none⟩ (.int .i64 a2)).heap.size = w4.heap.size := hc.size
          have bl0 := Nat.lt_of_lt_of_le bl0 (Nat.le_of_eq p5.symm)
          have bl1 := Nat.lt_of_lt_of_le bl1 (Nat.le_of_eq p5.symm)
          generalize hW0 : (w4.setCell ⟨w2.heap.size, 3, none⟩ (.int .i64 a2)) = w5 at *
          clear hW0 hc hko
          clear bx1_3 fz1_3
          refine (h8 _).mono ?_
          rintro e w6 ⟨rfl, hb⟩
          have k6 : Below w.heap.size w w6 := ext_step k5 (by omega) hb
          have p6 := hb.size
          replace hk0 := hk0.ext hb
          replace hk1 := hk1.ext hb
          have bl0 := Nat.lt_of_lt_of_le bl0 hb.size
          have bl1 := Nat.lt_of_lt_of_le bl1 hb.size
          clear hb
          have bx1_4 := hk1.at_ 4 _ rfl
          have fz1_4 := hk1.frozen 4
          have bx1_5 := hk1.at_ 5 _ rfl
          have fz1_5 := hk1.frozen 5
          go_wp2_with fail
          have hc : ChgA (w2.heap.size) w6 (w6.setCell ⟨w2.heap.size, 4, none⟩ (.int .i64 a3)) := (ChgA.refl _ _).set _ _
          have hko := hk1
          replace hk0 := hk0.chgA hc (by omega)
          replace hk1 : Blk (w6.setCell ⟨w2.heap.size, 4, none⟩ (.int .i64 a3)) (w2.heap.size) 29 [.int .i64 6, .int .i64 a0, .int .i64 a1, .int .i64 a2, .int .i64 a3, .int .i64 0, .int .i64 0, .string ⟨#[]⟩] := hk1.set_ 4 _
          have k7 : Below w.heap.size w (w6.setCell ⟨w2.heap.size, 4, none⟩ (.int .i64 a3)) := hc.below (by omega) k6
          have p7 : (w6.setCell ⟨w2.heap.size, 4, none⟩ (.int .i64 a3)).heap.size = w6.heap.size := hc.size
          have bl0 := Nat.lt_of_lt_of_le bl0 (Nat.le_of_eq p7.symm)
          have bl1 := Nat.lt_of_lt_of_le bl1 (Nat.le_of_eq p7.symm)
          generalize hW0 : (w6.setCell ⟨w2.heap.size, 4, none⟩ (.int .i64 a3)) = w7 at *
          clear hW0 hc hko
          clear bx1_4 fz1_4 bx1_5 fz1_5
          have hc : ChgA (w2.heap.size) w7 (w7.setCell ⟨w2.heap.size, 5, none⟩ (.int .i64 (byt s 13))) := (ChgA.refl _ _).set _ _
          have hko := hk1
          replace hk0 := hk0.chgA hc (by omega)
          replace hk1 : Blk (w7.setCell ⟨w2.heap.size, 5, none⟩ (.int .i64 (byt s 13))) (w2.heap.size) 29 [.int .i64 6, .int .i64 a0, .int .i64 a1, .int .i64 a2, .int .i64 a3, .int .i64 (byt s 13), .int .i64 0, .string ⟨#[]⟩] := hk1.set_ 5 _
          have k8 : Below w.heap.size w (w7.setCell ⟨w2.heap.size, 5, none⟩ (.int .i64 (byt s 13))) := hc.below (by omega) k7
          have p8 : (w7.setCell ⟨w2.heap.size, 5, none⟩ (.int .i64 (byt s 13))).heap.size = w7.heap.size := hc.size
          have bl0 := Nat.lt_of_lt_of_le bl0 (Nat.le_of_eq p8.symm)
          have bl1 := Nat.lt_of_lt_of_le bl1 (Nat.le_of_eq p8.symm)
          generalize hW0 : (w7.setCell ⟨w2.heap.size, 5, none⟩ (.int .i64 (byt s 13))) = w8 at *
          clear hW0 hc hko
          refine (h14 _).mono ?_
          rintro e w9 ⟨rfl, hb⟩
          have k9 : Below w.heap.size w w9 := ext_step k8 (by omega) hb
          have p9 := hb.size
          replace hk0 := hk0.ext hb
          replace hk1 := hk1.ext hb
          have bl0 := Nat.lt_of_lt_of_le bl0 hb.size
          have bl1 := Nat.lt_of_lt_of_le bl1 hb.size
          clear hb
          have bx1_0 := hk1.at_ 0 _ rfl
          have fz1_0 := hk1.frozen 0
          have bx1_1 := hk1.at_ 1 _ rfl
          have fz1_1 := hk1.frozen 1
          have bx1_2 := hk1.at_ 2 _ rfl
          have fz1_2 := hk1.frozen 2
          have bx1_3 := hk1.at_ 3 _ rfl
          have fz1_3 := hk1.frozen 3
          have bx1_4 := hk1.at_ 4 _ rfl
          have fz1_4 := hk1.frozen 4
          have bx1_5 := hk1.at_ 5 _ rfl
          have fz1_5 := hk1.frozen 5
          have bx1_6 := hk1.at_ 6 _ rfl
          have fz1_6 := hk1.frozen 6
          have bx1_7 := hk1.at_ 7 _ rfl
          have fz1_7 := hk1.frozen 7
          go_wp2_with fail
          have hc : ChgA (w2.heap.size) w9 (w9.setCell ⟨w2.heap.size, 6, none⟩ (.int .i64 a4)) := (ChgA.refl _ _).set _ _
          have hko := hk1
          replace hk0 := hk0.chgA hc (by omega)
          replace hk1 : Blk (w9.setCell ⟨w2.heap.size, 6, none⟩ (.int .i64 a4)) (w2.heap.size) 29 [.int .i64 6, .int .i64 a0, .int .i64 a1, .int .i64 a2, .int .i64 a3, .int .i64 (byt s 13), .int .i64 a4, .string ⟨#[]⟩] := hk1.set_ 6 _
          have k10 : Below w.heap.size w (w9.setCell ⟨w2.heap.size, 6, none⟩ (.int .i64 a4)) := hc.below (by omega) k9
          have p10 : (w9.setCell ⟨w2.heap.size, 6, none⟩ (.int .i64 a4)).heap.size = w9.heap.size := hc.size
          have bl0 := Nat.lt_of_lt_of_le bl0 (Nat.le_of_eq p10.symm)
          have bl1 := Nat.lt_of_lt_of_le bl1 (Nat.le_of_eq p10.symm)
          generalize hW0 : (w9.setCell ⟨w2.heap.size, 6, none⟩ (.int .i64 a4)) = w10 at *
          clear hW0 hc hko
          clear bx1_0 fz1_0 bx1_1 fz1_1 bx1_2 fz1_2 bx1_3 fz1_3 bx1_4 fz1_4 bx1_5 fz1_5 bx1_6 fz1_6 bx1_7 fz1_7
          have hc : ChgA (w2.heap.size) w10 (w10.setCell ⟨w2.heap.size, 7, none⟩ (.string B)) := (ChgA.refl _ _).set _ _
          have hko := hk1
          replace hk0 := hk0.chgA hc (by omega)
          replace hk1 : Blk (w10.setCell ⟨w2.heap.size, 7, none⟩ (.string B)) (w2.heap.size) 29 [.int .i64 6, .int .i64 a0, .int .i64 a1, .int .i64 a2, .int .i64 a3, .int .i64 (byt s 13), .int .i64 a4, .string B] := hk1.set_ 7 _
          have k11 : Below w.heap.size w (w10.setCell ⟨w2.heap.size, 7, none⟩ (.string B)) := hc.below (by omega) k10
          have p11 : (w10.setCell ⟨w2.heap.size, 7, none⟩ (.string B)).heap.size = w10.heap.size := hc.size
          have bl0 := Nat.lt_of_lt_of_le bl0 (Nat.le_of_eq p11.symm)
          have bl1 := Nat.lt_of_lt_of_le bl1 (Nat.le_of_eq p11.symm)
          generalize hW0 : (w10.setCell ⟨w2.heap.size, 7, none⟩ (.string B)) = w11 at *
          clear hW0 hc hko
          clear ew x13 h4 h8 h14
          refine (hbs _).mono ?_
          rintro e w12 ⟨rfl, hb⟩
          have k12 : Below w.heap.size w w12 := ext_step k11 (by omega) hb
          have p12 := hb.size
          replace hk0 := hk0.ext hb
          replace hk1 := hk1.ext hb
          have bl0 := Nat.lt_of_lt_of_le bl0 hb.size
          have bl1 := Nat.lt_of_lt_of_le bl1 hb.size
          clear hb
          clear  hk1
          have bx0_0 := hk0.at_ 0 _ rfl
          have fz0_0 := hk0.frozen 0
          have bx0_1 := hk0.at_ 1 _ rfl
          have fz0_1 := hk0.frozen 1
          have bx0_2 := hk0.at_ 2 _ rfl
          have fz0_2 := hk0.frozen 2
          have bx0_3 := hk0.at_ 3 _ rfl
          have fz0_3 := hk0.frozen 3
          have bx0_4 := hk0.at_ 4 _ rfl
          have fz0_4 := hk0.frozen 4
          have bx0_5 := hk0.at_ 5 _ rfl
          have fz0_5 := hk0.frozen 5
          have bx0_6 := hk0.at_ 6 _ rfl
          have fz0_6 := hk0.frozen 6
          have bx0_7 := hk0.at_ 7 _ rfl
          have fz0_7 := hk0.frozen 7
          go_wp2_with fail
          have hcc := ChgA.refl (w.heap.size) w12
          obtain ⟨w13_0, hW0⟩ : ∃ W, W = w12.setCell ⟨w.heap.size, 0, none⟩ (.int .i64 0) := ⟨_, rfl⟩
          replace hcc : ChgA (w.heap.size) w12 w13_0 := by rw [hW0]; exact hcc.set _ _
          replace hk0 : Blk w13_0 (w.heap.size) 29 [.int .i64 0, .int .i64 0, .int .i64 0, .int .i64 0, .int .i64 0, .int .i64 0, .int .i64 0, .string ⟨#[]⟩] := by rw [hW0]; exact hk0.set_ 0 _
          rw [← hW0]
          clear hW0
          obtain ⟨w13_1, hW0⟩ : ∃ W, W = w13_0.setCell ⟨w.heap.size, 1, none⟩ (.int .i64 0) := ⟨_, rfl⟩
          replace hcc : ChgA (w.heap.size) w12 w13_1 := by rw [hW0]; exact hcc.set _ _
          replace hk0 : Blk w13_1 (w.heap.size) 29 [.int .i64 0, .int .i64 0, .int .i64 0, .int .i64 0, .int .i64 0, .int .i64 0, .int .i64 0, .string ⟨#[]⟩] := by rw [hW0]; exact hk0.set_ 1 _
          rw [← hW0]
          clear hW0
          obtain ⟨w13_2, hW0⟩ : ∃ W, W = w13_1.setCell ⟨w.heap.size, 2, none⟩ (.int .i64 0) := ⟨_, rfl⟩
          replace hcc : ChgA (w.heap.size) w12 w13_2 := by rw [hW0]; exact hcc.set _ _
          replace hk0 : Blk w13_2 (w.heap.size) 29 [.int .i64 0, .int .i64 0, .int .i64 0, .int .i64 0, .int .i64 0, .int .i64 0, .int .i64 0, .string ⟨#[]⟩] := by rw [hW0]; exact hk0.set_ 2 _
          rw [← hW0]
          clear hW0
          obtain ⟨w13_3, hW0⟩ : ∃ W, W = w13_2.setCell ⟨w.heap.size, 3, none⟩ (.int .i64 0) := ⟨_, rfl⟩
          replace hcc : ChgA (w.heap.size) w12 w13_3 := by rw [hW0]; exact hcc.set _ _
          replace hk0 : Blk w13_3 (w.heap.size) 29 [.int .i64 0, .int .i64 0, .int .i64 0, .int .i64 0, .int .i64 0, .int .i64 0, .int .i64 0, .string ⟨#[]⟩] := by rw [hW0]; exact hk0.set_ 3 _
          rw [← hW0]
          clear hW0
          obtain ⟨w13_4, hW0⟩ : ∃ W, W = w13_3.setCell ⟨w.heap.size, 4, none⟩ (.int .i64 0) := ⟨_, rfl⟩
          replace hcc : ChgA (w.heap.size) w12 w13_4 := by rw [hW0]; exact hcc.set _ _
          replace hk0 : Blk w13_4 (w.heap.size) 29 [.int .i64 0, .int .i64 0, .int .i64 0, .int .i64 0, .int .i64 0, .int .i64 0, .int .i64 0, .string ⟨#[]⟩] := by rw [hW0]; exact hk0.set_ 4 _
          rw [← hW0]
          clear hW0
          obtain ⟨w13_5, hW0⟩ : ∃ W, W = w13_4.setCell ⟨w.heap.size, 5, none⟩ (.int .i64 0) := ⟨_, rfl⟩
          replace hcc : ChgA (w.heap.size) w12 w13_5 := by rw [hW0]; exact hcc.set _ _
          replace hk0 : Blk w13_5 (w.heap.size) 29 [.int .i64 0, .int .i64 0, .int .i64 0, .int .i64 0, .int .i64 0, .int .i64 0, .int .i64 0, .string ⟨#[]⟩] := by rw [hW0]; exact hk0.set_ 5 _
          rw [← hW0]
          clear hW0
          obtain ⟨w13_6, hW0⟩ : ∃ W, W = w13_5.setCell ⟨w.heap.size, 6, none⟩ (.int .i64 0) := ⟨_, rfl⟩
          replace hcc : ChgA (w.heap.size) w12 w13_6 := by rw [hW0]; exact hcc.set _ _
          replace hk0 : Blk w13_6 (w.heap.size) 29 [.int .i64 0, .int .i64 0, .int .i64 0, .int .i64 0, .int .i64 0, .int .i64 0, .int .i64 0, .string ⟨#[]⟩] := by rw [hW0]; exact hk0.set_ 6 _
          rw [← hW0]
          clear hW0
          obtain ⟨w13, hW0⟩ : ∃ W, W = w13_6.setCell ⟨w.heap.size, 7, none⟩ (.string ⟨#[]⟩) := ⟨_, rfl⟩
          replace hcc : ChgA (w.heap.size) w12 w13 := by rw [hW0]; exact hcc.set _ _
          replace hk0 : Blk w13 (w.heap.size) 29 [.int .i64 0, .int .i64 0, .int .i64 0, .int .i64 0, .int .i64 0, .int .i64 0, .int .i64 0, .string ⟨#[]⟩] := by rw [hW0]; exact hk0.set_ 7 _
          rw [← hW0]
          clear hW0
          have hc := hcc
          have k13 := hc.below (by omega) k12
          have p13 := hc.size
          replace bl0 := Nat.lt_of_lt_of_le bl0 (Nat.le_of_eq p13.symm)
          replace bl1 := Nat.lt_of_lt_of_le bl1 (Nat.le_of_eq p13.symm)
          clear hc hcc
          clear bx0_0 fz0_0 bx0_1 fz0_1 bx0_2 fz0_2 bx0_3 fz0_3 bx0_4 fz0_4 bx0_5 fz0_5 bx0_6 fz0_6 bx0_7 fz0_7
          have bx0_0 := hk0.at_ 0 _ rfl
          have bx0_1 := hk0.at_ 1 _ rfl
          have bx0_2 := hk0.at_ 2 _ rfl
          have bx0_3 := hk0.at_ 3 _ rfl
          have bx0_4 := hk0.at_ 4 _ rfl
          have bx0_5 := hk0.at_ 5 _ rfl
          have bx0_6 := hk0.at_ 6 _ rfl
          have bx0_7 := hk0.at_ 7 _ rfl
          refine bodyPost_ret (v := .tuple #[.agg #[.int .i64 0, .int .i64 0, .int .i64 0, .int .i64 0, .int .i64 0, .int .i64 0, .int .i64 0, .string ⟨#[]⟩], .bool false]) (by simp [results, Try.results75, go_sem, bx0_0, bx0_1, bx0_2, bx0_3, bx0_4, bx0_5, bx0_6, bx0_7]) rfl ?_
          exact ⟨rfl, k13⟩
        · have hok0 : okR si di 6 s = true := by rw [okR, hcond, d1, d2, d3, d4, d5, g0, g1, hsg, hP, hc]; rfl
          rw [hok0]
          simp only [sgI_yes hok0, sgT_yes hok0]
          clear hcond hsg hok0 hP d1 d2 d3 d4 d5 g0 g1
          go_enter Try.func75, Try.ntmps75
          go_wp2_with fail
          have k0 : Below w.heap.size w (w.alloc (.cells #[.int .i64 0, .int .i64 0, .int .i64 0, .int .i64 0, .int .i64 0, .int .i64 0, .int .i64 0, .string ⟨#[]⟩] 29)) := by go_grown
          have bl0 : w.heap.size < (w.alloc (.cells #[.int .i64 0, .int .i64 0, .int .i64 0, .int .i64 0, .int .i64 0, .int .i64 0, .int .i64 0, .string ⟨#[]⟩] 29)).heap.size := by go_size
          have hk0 : Blk (w.alloc (.cells #[.int .i64 0, .int .i64 0, .int .i64 0, .int .i64 0, .int .i64 0, .int .i64 0, .int .i64 0, .string ⟨#[]⟩] 29)) (w.heap.size) 29 [.int .i64 0, .int .i64 0, .int .i64 0, .int .i64 0, .int .i64 0, .int .i64 0, .int .i64 0, .string ⟨#[]⟩] := by simpa using Blk.new w 29 [.int .i64 0, .int .i64 0, .int .i64 0, .int .i64 0, .int .i64 0, .int .i64 0, .int .i64 0, .string ⟨#[]⟩]
          have p0 := k0.size
          generalize hW0 : (w.alloc (.cells #[.int .i64 0, .int .i64 0, .int .i64 0, .int .i64 0, .int .i64 0, .int .i64 0, .int .i64 0, .string ⟨#[]⟩] 29)) = w0 at *
          clear hW0
          refine (ha _).mono ?_
          rintro e w1 ⟨rfl, hb⟩
          have k1 : Below w.heap.size w w1 := ext_step k0 (by omega) hb
          have p1 := hb.size
          replace hk0 := hk0.ext hb
          have bl0 := Nat.lt_of_lt_of_le bl0 hb.size
          clear hb
          go_wp2_with fail
          refine (hc2 _).mono ?_
          rintro e w2 ⟨rfl, hb⟩
          have k2 : Below w.heap.size w w2 := ext_step k1 (by omega) hb
          have p2 := hb.size
          replace hk0 := hk0.ext hb
          have bl0 := Nat.lt_of_lt_of_le bl0 hb.size
          clear hb
          go_wp2_with fail
          obtain ⟨w3, hW0⟩ : ∃ W, W = (w2.alloc (.cells #[.int .i64 6, .int .i64 a0, .int .i64 a1, .int .i64 0, .int .i64 0, .int .i64 0, .int .i64 0, .string ⟨#[]⟩] 29)) := ⟨_, rfl⟩
          have hb : Below w2.heap.size w2 w3 := by rw [hW0]; go_grown
          have bl1 : w2.heap.size < w3.heap.size := by rw [hW0]; go_size
          have hk1 : Blk w3 (w2.heap.size) 29 [.int .i64 6, .int .i64 a0, .int .i64 a1, .int .i64 0, .int .i64 0, .int .i64 0, .int .i64 0, .string ⟨#[]⟩] := by rw [hW0]; exact Blk.new _ _ _
          rw [← hW0]
          clear hW0
          have k3 := ext_step k2 (by omega) hb
          have p3 := hb.size
          replace hk0 := hk0.ext hb
          have bl0 := Nat.lt_of_lt_of_le bl0 hb.size
          clear hb
          refine (h4 _).mono ?_
          rintro e w4 ⟨rfl, hb⟩
          have k4 : Below w.heap.size w w4 := ext_step k3 (by omega) hb
          have p4 := hb.size
          replace hk0 := hk0.ext hb
          replace hk1 := hk1.ext hb
          have bl0 := Nat.lt_of_lt_of_le bl0 hb.size
          have bl1 := Nat.lt_of_lt_of_le bl1 hb.size
          clear hb
          have bx1_3 := hk1.at_ 3 _ rfl
          have fz1_3 := hk1.frozen 3
          go_wp2_with fail
          have hc : ChgA (w2.heap.size) w4 (w4.setCell ⟨w2.heap.size, 3, none⟩ (.int .i64 a2)) := (ChgA.refl _ _).set _ _
          have hko := hk1
          replace hk0 := hk0.chgA hc (by omega)
          replace hk1 : Blk (w4.setCell ⟨w2.heap.size, 3, none⟩ (.int .i64 a2)) (w2.heap.size) 29 [.int .i64 6, .int .i64 a0, .int .i64 a1, .int .i64 a2, .int .i64 0, .int .i64 0, .int .i64 0, .string ⟨#[]⟩] := hk1.set_ 3 _
          have k5 : Below w.heap.size w (w4.setCell ⟨w2.heap.size, 3, none⟩ (.int .i64 a2)) := hc.below (by omega) k4
          have p5 : (w4.setCell ⟨w2.heap.size, 3, none⟩ (.int .i64 a2)).heap.size = w4.heap.size := hc.size
          have bl0 := Nat.lt_of_lt_of_le bl0 (Nat.le_of_eq p5.symm)
          have bl1 := Nat.lt_of_lt_of_le bl1 (Nat.le_of_eq p5.symm)
          generalize hW0 : (w4.setCell ⟨w2.heap.size, 3, none⟩ (.int .i64 a2)) = w5 at *
          clear hW0 hc hko
          clear bx1_3 fz1_3
          refine (h8 _).mono ?_
          rintro e w6 ⟨rfl, hb⟩
          have k6 : Below w.heap.size w w6 := ext_step k5 (by omega) hb
          have p6 := hb.size
          replace hk0 := hk0.ext hb
          replace hk1 := hk1.ext hb
          have bl0 := Nat.lt_of_lt_of_le bl0 hb.size
          have bl1 := Nat.lt_of_lt_of_le bl1 hb.size
          clear hb
          have bx1_4 := hk1.at_ 4 _ rfl
          have fz1_4 := hk1.frozen 4
          have bx1_5 := hk1.at_ 5 _ rfl
          have fz1_5 := hk1.frozen 5
          go_wp2_with fail
          have hc : ChgA (w2.heap.size) w6 (w6.setCell ⟨w2.heap.size, 4, none⟩ (.int .i64 a3)) := (ChgA.refl _ _).set _ _
          have hko := hk1
          replace hk0 := hk0.chgA hc (by omega)
          replace hk1 : Blk (w6.setCell ⟨w2.heap.size, 4, none⟩ (.int .i64 a3)) (w2.heap.size) 29 [.int .i64 6, .int .i64 a0, .int .i64 a1, .int .i64 a2, .int .i64 a3, .int .i64 0, .int .i64 0, .string ⟨#[]⟩] := hk1.set_ 4 _
          have k7 : Below w.heap.size w (w6.setCell ⟨w2.heap.size, 4, none⟩ (.int .i64 a3)) := hc.below (by omega) k6
          have p7 : (w6.setCell ⟨w2.heap.size, 4, none⟩ (.int .i64 a3)).heap.size = w6.heap.size := hc.size
          have bl0 := Nat.lt_of_lt_of_le bl0 (Nat.le_of_eq p7.symm)
          have bl1 := Nat.lt_of_lt_of_le bl1 (Nat.le_of_eq p7.symm)
          generalize hW0 : (w6.setCell ⟨w2.heap.size, 4, none⟩ (.int .i64 a3)) = w7 at *
          clear hW0 hc hko
          clear bx1_4 fz1_4 bx1_5 fz1_5
          have hc : ChgA (w2.heap.size) w7 (w7.setCell ⟨w2.heap.size, 5, none⟩ (.int .i64 (byt s 13))) := (ChgA.refl _ _).set _ _
          have hko := hk1
          replace hk0 := hk0.chgA hc (by omega)
          replace hk1 : Blk (w7.setCell ⟨w2.heap.size, 5, none⟩ (.int .i64 (byt s 13))) (w2.heap.size) 29 [.int .i64 6, .int .i64 a0, .int .i64 a1, .int .i64 a2, .int .i64 a3, .int .i64 (byt s 13), .int .i64 0, .string ⟨#[]⟩] := hk1.set_ 5 _
          have k8 : Below w.heap.size w (w7.setCell ⟨w2.heap.size, 5, none⟩ (.int .i64 (byt s 13))) := hc.below (by omega) k7
          have p8 : (w7.setCell ⟨w2.heap.size, 5, none⟩ (.int .i64 (byt s 13))).heap.size = w7.heap.size := hc.size
          have bl0 := Nat.lt_of_lt_of_le bl0 (Nat.le_of_eq p8.symm)
          have bl1 := Nat.lt_of_lt_of_le bl1 (Nat.le_of_eq p8.symm)
          generalize hW0 : (w7.setCell ⟨w2.heap.size, 5, none⟩ (.int .i64 (byt s 13))) = w8 at *
          clear hW0 hc hko
          refine (h14 _).mono ?_
          rintro e w9 ⟨rfl, hb⟩
          have k9 : Below w.heap.size w w9 := ext_step k8 (by omega) hb
          have p9 := hb.size
          replace hk0 := hk0.ext hb
          replace hk1 := hk1.ext hb
          have bl0 := Nat.lt_of_lt_of_le bl0 hb.size
          have bl1 := Nat.lt_of_lt_of_le bl1 hb.size
          clear hb
          have bx1_0 := hk1.at_ 0 _ rfl
          have fz1_0 := hk1.frozen 0
          have bx1_1 := hk1.at_ 1 _ rfl
          have fz1_1 := hk1.frozen 1
          have bx1_2 := hk1.at_ 2 _ rfl
          have fz1_2 := hk1.frozen 2
          have bx1_3 := hk1.at_ 3 _ rfl
          have fz1_3 := hk1.frozen 3
          have bx1_4 := hk1.at_ 4 _ rfl
          have fz1_4 := hk1.frozen 4
          have bx1_5 := hk1.at_ 5 _ rfl
          have fz1_5 := hk1.frozen 5
          have bx1_6 := hk1.at_ 6 _ rfl
          have fz1_6 := hk1.frozen 6
          have bx1_7 := hk1.at_ 7 _ rfl
          have fz1_7 := hk1.frozen 7
          go_wp2_with fail
          have hc : ChgA (w2.heap.size) w9 (w9.setCell ⟨w2.heap.size, 6, none⟩ (.int .i64 a4)) := (ChgA.refl _ _).set _ _
          have hko := hk1
          replace hk0 := hk0.chgA hc (by omega)
          replace hk1 : Blk (w9.setCell ⟨w2.heap.size, 6, none⟩ (.int .i64 a4)) (w2.heap.size) 29 [.int .i64 6, .int .i64 a0, .int .i64 a1, .int .i64 a2, .int .i64 a3, .int .i64 (byt s 13), .int .i64 a4, .string ⟨#[]⟩] := hk1.set_ 6 _
          have k10 : Below w.heap.size w (w9.setCell ⟨w2.heap.size, 6, none⟩ (.int .i64 a4)) := hc.below (by omega) k9
          have p10 : (w9.setCell ⟨w2.heap.size, 6, none⟩ (.int .i64 a4)).heap.size = w9.heap.size := hc.size
          have bl0 := Nat.lt_of_lt_of_le bl0 (Nat.le_of_eq p10.symm)
          have bl1 := Nat.lt_of_lt_of_le bl1 (Nat.le_of_eq p10.symm)
          generalize hW0 : (w9.setCell ⟨w2.heap.size, 6, none⟩ (.int .i64 a4)) = w10 at *
          clear hW0 hc hko
          clear bx1_0 fz1_0 bx1_1 fz1_1 bx1_2 fz1_2 bx1_3 fz1_3 bx1_4 fz1_4 bx1_5 fz1_5 bx1_6 fz1_6 bx1_7 fz1_7
          have hc : ChgA (w2.heap.size) w10 (w10.setCell ⟨w2.heap.size, 7, none⟩ (.string B)) := (ChgA.refl _ _).set _ _
          have hko := hk1
          replace hk0 := hk0.chgA hc (by omega)
          replace hk1 : Blk (w10.setCell ⟨w2.heap.size, 7, none⟩ (.string B)) (w2.heap.size) 29 [.int .i64 6, .int .i64 a0, .int .i64 a1, .int .i64 a2, .int .i64 a3, .int .i64 (byt s 13), .int .i64 a4, .string B] := hk1.set_ 7 _
          have k11 : Below w.heap.size w (w10.setCell ⟨w2.heap.size, 7, none⟩ (.string B)) := hc.below (by omega) k10
          have p11 : (w10.setCell ⟨w2.heap.size, 7, none⟩ (.string B)).heap.size = w10.heap.size := hc.size
          have bl0 := Nat.lt_of_lt_of_le bl0 (Nat.le_of_eq p11.symm)
          have bl1 := Nat.lt_of_lt_of_le bl1 (Nat.le_of_eq p11.symm)
          generalize hW0 : (w10.setCell ⟨w2.heap.size, 7, none⟩ (.string B)) = w11 at *
          clear hW0 hc hko
          clear ew x13 h4 h8 h14
          refine (hbs _).mono ?_
          rintro e w12 ⟨rfl, hb⟩
          have k12 : Below w.heap.size w w12 := ext_step k11 (by omega) hb
          have p12 := hb.size
          replace hk0 := hk0.ext hb
          replace hk1 := hk1.ext hb
          have bl0 := Nat.lt_of_lt_of_le bl0 hb.size
          have bl1 := Nat.lt_of_lt_of_le bl1 hb.size
          clear hb
          have bx1_0 := hk1.at_ 0 _ rfl
          have bx1_1 := hk1.at_ 1 _ rfl
          have bx1_2 := hk1.at_ 2 _ rfl
          have bx1_3 := hk1.at_ 3 _ rfl
          have bx1_4 := hk1.at_ 4 _ rfl
          have bx1_5 := hk1.at_ 5 _ rfl
          have bx1_6 := hk1.at_ 6 _ rfl
          have bx1_7 := hk1.at_ 7 _ rfl
          have bx0_0 := hk0.at_ 0 _ rfl
          have fz0_0 := hk0.frozen 0
          have bx0_1 := hk0.at_ 1 _ rfl
          have fz0_1 := hk0.frozen 1
          have bx0_2 := hk0.at_ 2 _ rfl
          have fz0_2 := hk0.frozen 2
          have bx0_3 := hk0.at_ 3 _ rfl
          have fz0_3 := hk0.frozen 3
          have bx0_4 := hk0.at_ 4 _ rfl
          have fz0_4 := hk0.frozen 4
          have bx0_5 := hk0.at_ 5 _ rfl
          have fz0_5 := hk0.frozen 5
          have bx0_6 := hk0.at_ 6 _ rfl
          have fz0_6 := hk0.frozen 6
          have bx0_7 := hk0.at_ 7 _ rfl
          have fz0_7 := hk0.frozen 7
          go_wp2_with fail
          clear bx1_0 bx1_1 bx1_2 bx1_3 bx1_4 bx1_5 bx1_6 bx1_7 hk1
          have hcc := ChgA.refl (w.heap.size) w12
          obtain ⟨w13_0, hW0⟩ : ∃ W, W = w12.setCell ⟨w.heap.size, 0, none⟩ (.int .i64 6) := ⟨_, rfl⟩
          replace hcc : ChgA (w.heap.size) w12 w13_0 := by rw [hW0]; exact hcc.set _ _
          replace hk0 : Blk w13_0 (w.heap.size) 29 [.int .i64 6, .int .i64 0, .int .i64 0, .int .i64 0, .int .i64 0, .int .i64 0, .int .i64 0, .string ⟨#[]⟩] := by rw [hW0]; exact hk0.set_ 0 _
          rw [← hW0]
          clear hW0
          obtain ⟨w13_1, hW0⟩ : ∃ W, W = w13_0.setCell ⟨w.heap.size, 1, none⟩ (.int .i64 a0) := ⟨_, rfl⟩
          replace hcc : ChgA (w.heap.size) w12 w13_1 := by rw [hW0]; exact hcc.set _ _
          replace hk0 : Blk w13_1 (w.heap.size) 29 [.int .i64 6, .int .i64 a0, .int .i64 0, .int .i64 0, .int .i64 0, .int .i64 0, .int .i64 0, .string ⟨#[]⟩] := by rw [hW0]; exact hk0.set_ 1 _
          rw [← hW0]
          clear hW0
          obtain ⟨w13_2, hW0⟩ : ∃ W, W = w13_1.setCell ⟨w.heap.size, 2, none⟩ (.int .i64 a1) := ⟨_, rfl⟩
          replace hcc : ChgA (w.heap.size) w12 w13_2 := by rw [hW0]; exact hcc.set _ _
          replace hk0 : Blk w13_2 (w.heap.size) 29 [.int .i64 6, .int .i64 a0, .int .i64 a1, .int .i64 0, .int .i64 0, .int .i64 0, .int .i64 0, .string ⟨#[]⟩] := by rw [hW0]; exact hk0.set_ 2 _
          rw [← hW0]
          clear hW0
          obtain ⟨w13_3, hW0⟩ : ∃ W, W = w13_2.setCell ⟨w.heap.size, 3, none⟩ (.int .i64 a2) := ⟨_, rfl⟩
          replace hcc : ChgA (w.heap.size) w12 w13_3 := by rw [hW0]; exact hcc.set _ _
          replace hk0 : Blk w13_3 (w.heap.size) 29 [.int .i64 6, .int .i64 a0, .int .i64 a1, .int .i64 a2, .int .i64 0, .int .i64 0, .int .i64 0, .string ⟨#[]⟩] := by rw [hW0]; exact hk0.set_ 3 _
          rw [← hW0]
          clear hW0
          obtain ⟨w13_4, hW0⟩ : ∃ W, W = w13_3.setCell ⟨w.heap.size, 4, none⟩ (.int .i64 a3) := ⟨_, rfl⟩
          replace hcc : ChgA (w.heap.size) w12 w13_4 := by rw [hW0]; exact hcc.set _ _
          replace hk0 : Blk w13_4 (w.heap.size) 29 [.int .i64 6, .int .i64 a0, .int .i64 a1, .int .i64 a2, .int .i64 a3, .int .i64 0, .int .i64 0, .string ⟨#[]⟩] := by rw [hW0]; exact hk0.set_ 4 _
          rw [← hW0]
          clear hW0
          obtain ⟨w13_5, hW0⟩ : ∃ W, W = w13_4.setCell ⟨w.heap.size, 5, none⟩ (.int .i64 (byt s 13)) := ⟨_, rfl⟩
          replace hcc : ChgA (w.heap.size) w12 w13_5 := by rw [hW0]; exact hcc.set _ _
          replace hk0 : Blk w13_5 (w.heap.size) 29 [.int .i64 6, .int .i64 a0, .int .i64 a1, .int .i64 a2, .int .i64 a3, .int .i64 (byt s 13), .int .i64 0, .string ⟨#[]⟩] := by rw [hW0]; exact hk0.set_ 5 _
          rw [← hW0]
          clear hW0
          obtain ⟨w13_6, hW0⟩ : ∃ W, W = w13_5.setCell ⟨w.heap.size, 6, none⟩ (.int .i64 a4) := ⟨_, rfl⟩
          replace hcc : ChgA (w.heap.size) w12 w13_6 := by rw [hW0]; exact hcc.set _ _
          replace hk0 : Blk w13_6 (w.heap.size) 29 [.int .i64 6, .int .i64 a0, .int .i64 a1, .int .i64 a2, .int .i64 a3, .int .i64 (byt s 13), .int .i64 a4, .string ⟨#[]⟩] := by rw [hW0]; exact hk0.set_ 6 _
          rw [← hW0]
          clear hW0
          obtain ⟨w13, hW0⟩ : ∃ W, W = w13_6.setCell ⟨w.heap.size, 7, none⟩ (.string B) := ⟨_, rfl⟩
          replace hcc : ChgA (w.heap.size) w12 w13 := by rw [hW0]; exact hcc.set _ _
          replace hk0 : Blk w13 (w.heap.size) 29 [.int .i64 6, .int .i64 a0, .int .i64 a1, .int .i64 a2, .int .i64 a3, .int .i64 (byt s 13), .int .i64 a4, .string B] := by rw [hW0]; exact hk0.set_ 7 _
          rw [← hW0]
          clear hW0
          have hc := hcc
          have k13 := hc.below (by omega) k12
          have p13 := hc.size
          replace bl0 := Nat.lt_of_lt_of_le bl0 (Nat.le_of_eq p13.symm)
          replace bl1 := Nat.lt_of_lt_of_le bl1 (Nat.le_of_eq p13.symm)
          clear hc hcc
          clear bx0_0 fz0_0 bx0_1 fz0_1 bx0_2 fz0_2 bx0_3 fz0_3 bx0_4 fz0_4 bx0_5 fz0_5 bx0_6 fz0_6 bx0_7 fz0_7
          have bx0_0 := hk0.at_ 0 _ rfl
          have bx0_1 := hk0.at_ 1 _ rfl
          have bx0_2 := hk0.at_ 2 _ rfl
          have bx0_3 := hk0.at_ 3 _ rfl
          have bx0_4 := hk0.at_ 4 _ rfl
          have bx0_5 := hk0.at_ 5 _ rfl
          have bx0_6 := hk0.at_ 6 _ rfl
          have bx0_7 := hk0.at_ 7 _ rfl
          refine bodyPost_ret (v := .tuple #[.agg #[.int .i64 6, .int .i64 a0, .int .i64 a1, .int .i64 a2, .int .i64 a3, .int .i64 (byt s 13), .int .i64 a4, .string B], .bool true]) (by simp [results, Try.results75, go_sem, bx0_0, bx0_1, bx0_2, bx0_3, bx0_4, bx0_5, bx0_6, bx0_7]) rfl ?_
          exact ⟨rfl, k13⟩
    · have l20 : ¬ (20 : Int) ≤ (s.size : Int) := by omega
      have hok0 : okR si di 6 s = false := by simp [okR, tcpB, udpB, h20]
      rw [hok0]
      simp only [sgI_no hok0, sgT_no hok0]
      clear hok0
      go_enter Try.func75, Try.ntmps75
      go_wp2_with fail
      have k0 : Below w.heap.size w (w.alloc (.cells #[.int .i64 0, .int .i64 0, .int .i64 0, .int .i64 0, .int .i64 0, .int .i64 0, .int .i64 0, .string ⟨#[]⟩] 29)) := by go_grown
      have bl0 : w.heap.size < (w.alloc (.cells #[.int .i64 0, .int .i64 0, .int .i64 0, .int .i64 0, .int .i64 0, .int .i64 0, .int .i64 0, .string ⟨#[]⟩] 29)).heap.size := by go_size
      have hk0 : Blk (w.alloc (.cells #[.int .i64 0, .int .i64 0, .int .i64 0, .int .i64 0, .int .i64 0, .int .i64 0, .int .i64 0, .string ⟨#[]⟩] 29)) (w.heap.size) 29 [.int .i64 0, .int .i64 0, .int .i64 0, .int .i64 0, .int .i64 0, .int .i64 0, .int .i64 0, .string ⟨#[]⟩] := by simpa using Blk.new w 29 [.int .i64 0, .int .i64 0, .int .i64 0, .int .i64 0, .int .i64 0, .int .i64 0, .int .i64 0, .string ⟨#[]⟩]
      have p0 := k0.size
      generalize hW0 : (w.alloc (.cells #[.int .i64 0, .int .i64 0, .int .i64 0, .int .i64 0, .int .i64 0, .int .i64 0, .int .i64 0, .string ⟨#[]⟩] 29)) = w0 at *
      clear hW0
      refine (ha _).mono ?_
      rintro e w1 ⟨rfl, hb⟩
      have k1 : Below w.heap.size w w1 := ext_step k0 (by omega) hb
      have p1 := hb.size
      replace hk0 := hk0.ext hb
      have bl0 := Nat.lt_of_lt_of_le bl0 hb.size
      clear hb
      go_wp2_with fail
      refine (hc2 _).mono ?_
      rintro e w2 ⟨rfl, hb⟩
      have k2 : Below w.heap.size w w2 := ext_step k1 (by omega) hb
      have p2 := hb.size
      replace hk0 := hk0.ext hb
      have bl0 := Nat.lt_of_lt_of_le bl0 hb.size
      clear hb
      go_upto_region 2 with fail
      obtain ⟨w3, hW0⟩ : ∃ W, W = (w2.alloc (.cells #[.int .i64 6, .int .i64 a0, .int .i64 a1, .int .i64 0, .int .i64 0, .int .i64 0, .int .i64 0, .string ⟨#[]⟩] 29)) := ⟨_, rfl⟩
      have hb : Below w2.heap.size w2 w3 := by rw [hW0]; go_grown
      have bl1 : w2.heap.size < w3.heap.size := by rw [hW0]; go_size
      have hk1 : Blk w3 (w2.heap.size) 29 [.int .i64 6, .int .i64 a0, .int .i64 a1, .int .i64 0, .int .i64 0, .int .i64 0, .int .i64 0, .string ⟨#[]⟩] := by rw [hW0]; exact Blk.new _ _ _
      rw [← hW0]
      clear hW0
      have k3 := ext_step k2 (by omega) hb
      have p3 := hb.size
      replace hk0 := hk0.ext hb
      have bl0 := Nat.lt_of_lt_of_le bl0 hb.size
      clear hb
      clear  hk1
      have bx0_0 := hk0.at_ 0 _ rfl
      have fz0_0 := hk0.frozen 0
      have bx0_1 := hk0.at_ 1 _ rfl
      have fz0_1 := hk0.frozen 1
      have bx0_2 := hk0.at_ 2 _ rfl
      have fz0_2 := hk0.frozen 2
      have bx0_3 := hk0.at_ 3 _ rfl
      have fz0_3 := hk0.frozen 3
      have bx0_4 := hk0.at_ 4 _ rfl
      have fz0_4 := hk0.frozen 4
      have bx0_5 := hk0.at_ 5 _ rfl
      have fz0_5 := hk0.frozen 5
      have bx0_6 := hk0.at_ 6 _ rfl
      have fz0_6 := hk0.frozen 6
      have bx0_7 := hk0.at_ 7 _ rfl
      have fz0_7 := hk0.frozen 7
      go_wp2_with fail
      have hcc := ChgA.refl (w.heap.size) w3
      obtain ⟨w4_0, hW0⟩ : ∃ W, W = w3.setCell ⟨w.heap.size, 0, none⟩ (.int .i64 0) := ⟨_, rfl⟩
      replace hcc : ChgA (w.heap.size) w3 w4_0 := by rw [hW0]; exact hcc.set _ _
      replace hk0 : Blk w4_0 (w.heap.size) 29 [.int .i64 0, .int .i64 0, .int .i64 0, .int .i64 0, .int .i64 0, .int .i64 0, .int .i64 0, .string ⟨#[]⟩] := by rw [hW0]; exact hk0.set_ 0 _
      rw [← hW0]
      clear hW0
      obtain ⟨w4_1, hW0⟩ : ∃ W, W = w4_0.setCell ⟨w.heap.size, 1, none⟩ (.int .i64 0) := ⟨_, rfl⟩
      replace hcc : ChgA (w.heap.size) w3 w4_1 := by rw [hW0]; exact hcc.set _ _
      replace hk0 : Blk w4_1 (w.heap.size) 29 [.int .i64 0, .int .i64 0, .int .i64 0, .int .i64 0, .int .i64 0, .int .i64 0, .int .i64 0, .string ⟨#[]⟩] := by rw [hW0]; exact hk0.set_ 1 _
      rw [← hW0]
      clear hW0
      obtain ⟨w4_2, hW0⟩ : ∃ W, W = w4_1.setCell ⟨w.heap.size, 2, none⟩ (.int .i64 0) := ⟨_, rfl⟩
      replace hcc : ChgA (w.heap.size) w3 w4_2 := by rw [hW0]; exact hcc.set _ _
      replace hk0 : Blk w4_2 (w.heap.size) 29 [.int .i64 0, .int .i64 0, .int .i64 0, .int .i64 0, .int .i64 0, .int .i64 0, .int .i64 0, .string ⟨#[]⟩] := by rw [hW0]; exact hk0.set_ 2 _
      rw [← hW0]
      clear hW0
      obtain ⟨w4_3, hW0⟩ : ∃ W, W = w4_2.setCell ⟨w.heap.size, 3, none⟩ (.int .i64 0) := ⟨_, rfl⟩
      replace hcc : ChgA (w.heap.size) w3 w4_3 := by rw [hW0]; exact hcc.set _ _
      replace hk0 : Blk w4_3 (w.heap.size) 29 [.int .i64 0, .int .i64 0, .int .i64 0, .int .i64 0, .int .i64 0, .int .i64 0, .int .i64 0, .string ⟨#[]⟩] := by rw [hW0]; exact hk0.set_ 3 _
      rw [← hW0]
      clear hW0
      obtain ⟨w4_4, hW0⟩ : ∃ W, W = w4_3.setCell ⟨w.heap.size, 4, none⟩ (.int .i64 0) := ⟨_, rfl⟩
      replace hcc : ChgA (w.heap.size) w3 w4_4 := by rw [hW0]; exact hcc.set _ _
      replace hk0 : Blk w4_4 (w.heap.size) 29 [.int .i64 0, .int .i64 0, .int .i64 0, .int .i64 0, .int .i64 0, .int .i64 0, .int .i64 0, .string ⟨#[]⟩] := by rw [hW0]; exact hk0.set_ 4 _
      rw [← hW0]
      clear hW0
      obtain ⟨w4_5, hW0⟩ : ∃ W, W = w4_4.setCell ⟨w.heap.size, 5, none⟩ (.int .i64 0) := ⟨_, rfl⟩
      replace hcc : ChgA (w.heap.size) w3 w4_5 := by rw [hW0]; exact hcc.set _ _
      replace hk0 : Blk w4_5 (w.heap.size) 29 [.int .i64 0, .int .i64 0, .int .i64 0, .int .i64 0, .int .i64 0, .int .i64 0, .int .i64 0, .string ⟨#[]⟩] := by rw [hW0]; exact hk0.set_ 5 _
      rw [← hW0]
      clear hW0
      obtain ⟨w4_6, hW0⟩ : ∃ W, W = w4_5.setCell ⟨w.heap.size, 6, none⟩ (.int .i64 0) := ⟨_, rfl⟩
      replace hcc : ChgA (w.heap.size) w3 w4_6 := by rw [hW0]; exact hcc.set _ _
      replace hk0 : Blk w4_6 (w.heap.size) 29 [.int .i64 0, .int .i64 0, .int .i64 0, .int .i64 0, .int .i64 0, .int .i64 0, .int .i64 0, .string ⟨#[]⟩] := by rw [hW0]; exact hk0.set_ 6 _
      rw [← hW0]
      clear hW0
      obtain ⟨w4, hW0⟩ : ∃ W, W = w4_6.setCell ⟨w.heap.size, 7, none⟩ (.string ⟨#[]⟩) := ⟨_, rfl⟩
      replace hcc : ChgA (w.heap.size) w3 w4 := by rw [hW0]; exact hcc.set _ _
      replace hk0 : Blk w4 (w.heap.size) 29 [.int .i64 0, .int .i64 0, .int .i64 0, .int .i64 0, .int .i64 0, .int .i64 0, .int .i64 0, .string ⟨#[]⟩] := by rw [hW0]; exact hk0.set_ 7 _
      rw [← hW0]
      clear hW0
      have hc := hcc
      have k4 := hc.below (by omega) k3
      have p4 := hc.size
      replace bl0 := Nat.lt_of_lt_of_le bl0 (Nat.le_of_eq p4.symm)
      replace bl1 := Nat.lt_of_lt_of_le bl1 (Nat.le_of_eq p4.symm)
      clear hc hcc
      clear bx0_0 fz0_0 bx0_1 fz0_1 bx0_2 fz0_2 bx0_3 fz0_3 bx0_4 fz0_4 bx0_5 fz0_5 bx0_6 fz0_6 bx0_7 fz0_7
      have bx0_0 := hk0.at_ 0 _ rfl
      have bx0_1 := hk0.at_ 1 _ rfl
      have bx0_2 := hk0.at_ 2 _ rfl
      have bx0_3 := hk0.at_ 3 _ rfl
      have bx0_4 := hk0.at_ 4 _ rfl
      have bx0_5 := hk0.at_ 5 _ rfl
      have bx0_6 := hk0.at_ 6 _ rfl
      have bx0_7 := hk0.at_ 7 _ rfl
      refine bodyPost_ret (v := .tuple #[.agg #[.int .i64 0, .int .i64 0, .int .i64 0, .int .i64 0, .int .i64 0, .int .i64 0, .int .i64 0, .string ⟨#[]⟩], .bool false]) (by simp [results, Try.results75, go_sem, bx0_0, bx0_1, bx0_2, bx0_3, bx0_4, bx0_5, bx0_6, bx0_7]) rfl ?_
      exact ⟨rfl, k4⟩
  · by_cases h17 : kd = 17
    · subst h17
      by_cases h8_ : 8 ≤ s.size
      · have d1 : sqR 17 s = 0 := if_neg (by decide)
        have d2 : akR 17 s = 0 := if_neg (by decide)
        have d3 : flR 17 s = 0 := if_neg (by decide)
        have d4 : wnR 17 s = 0 := if_neg (by decide)
        have d5 : bdR 17 s = s.extract 8 s.size := if_neg (by decide)
        have ln : (8 : Int) ≤ (s.size : Int) := by omega
        have hBs : (s.extract 8 s.size).size ≤ 1048576 := by rw [ByteArray.size_extract]; omega
        obtain ⟨B, hB⟩ : ∃ B, s.extract 8 s.size = B := ⟨_, rfl⟩
        rw [hB] at d5 hBs
        have hcond : (tcpB 17 s || udpB 17 s) = true := by simp [tcpB, udpB]; omega
        have hbs := fun u => implBuildSegment_c si di 17 a0 a1 0 0 0 0 B u hBs hsi hdi
        simp only [d1, d2, d3, d4, d5, g0, g1]
        cases hsg : segB 17 a0 a1 0 0 0 0 B
        · have hok0 : okR si di 17 s = false := by rw [okR, hcond, d1, d2, d3, d4, d5, g0, g1, hsg]; rfl
          rw [hok0]
          simp only [sgI_no hok0, sgT_no hok0]
          simp only [hsg, Bool.false_eq_true, if_false] at hbs
          clear hcond hsg hok0 d1 d2 d3 d4 d5 g0 g1
          go_enter Try.func75, Try.ntmps75
          go_wp2_with fail
          have k0 : Below w.heap.size w (w.alloc (.cells #[.int .i64 0, .int .i64 0, .int .i64 0, .int .i64 0, .int .i64 0, .int .i64 0, .int .i64 0, .string ⟨#[]⟩] 29)) := by go_grown
          have bl0 : w.heap.size < (w.alloc (.cells #[.int .i64 0, .int .i64 0, .int .i64 0, .int .i64 0, .int .i64 0, .int .i64 0, .int .i64 0, .string ⟨#[]⟩] 29)).heap.size := by go_size
          have hk0 : Blk (w.alloc (.cells #[.int .i64 0, .int .i64 0, .int .i64 0, .int .i64 0, .int .i64 0, .int .i64 0, .int .i64 0, .string ⟨#[]⟩] 29)) (w.heap.size) 29 [.int .i64 0, .int .i64 0, .int .i64 0, .int .i64 0, .int .i64 0, .int .i64 0, .int .i64 0, .string ⟨#[]⟩] := by simpa using Blk.new w 29 [.int .i64 0, .int .i64 0, .int .i64 0, .int .i64 0, .int .i64 0, .int .i64 0, .int .i64 0, .string ⟨#[]⟩]
          have p0 := k0.size
          generalize hW0 : (w.alloc (.cells #[.int .i64 0, .int .i64 0, .int .i64 0, .int .i64 0, .int .i64 0, .int .i64 0, .int .i64 0, .string ⟨#[]⟩] 29)) = w0 at *
          clear hW0
          refine (ha _).mono ?_
          rintro e w1 ⟨rfl, hb⟩
          have k1 : Below w.heap.size w w1 := ext_step k0 (by omega) hb
          have p1 := hb.size
          replace hk0 := hk0.ext hb
          have bl0 := Nat.lt_of_lt_of_le bl0 hb.size
          clear hb
          go_wp2_with fail
          refine (hc2 _).mono ?_
          rintro e w2 ⟨rfl, hb⟩
          have k2 : Below w.heap.size w w2 := ext_step k1 (by omega) hb
          have p2 := hb.size
          replace hk0 := hk0.ext hb
          have bl0 := Nat.lt_of_lt_of_le bl0 hb.size
          clear hb
          go_wp2_with fail
          obtain ⟨w3, hW0⟩ : ∃ W, W = (w2.alloc (.cells #[.int .i64 17, .int .i64 a0, .int .i64 a1, .int .i64 0, .int .i64 0, .int .i64 0, .int .i64 0, .string B] 29)) := ⟨_, rfl⟩
          have hb : Below w2.heap.size w2 w3 := by rw [hW0]; go_grown
          have bl1 : w2.heap.size < w3.heap.size := by rw [hW0]; go_size
          have hk1 : Blk w3 (w2.heap.size) 29 [.int .i64 17, .int .i64 a0, .int .i64 a1, .int .i64 0, .int .i64 0, .int .i64 0, .int .i64 0, .string B] := by rw [hW0]; exact Blk.new _ _ _
          rw [← hW0]
          clear hW0
          have k3 := ext_step k2 (by omega) hb
          have p3 := hb.size
          replace hk0 := hk0.ext hb
          have bl0 := Nat.lt_of_lt_of_le bl0 hb.size
          clear hb
          refine (hbs _).mono ?_
          rintro e w4 ⟨rfl, hb⟩
          have k4 : Below w.heap.size w w4 := ext_step k3 (by omega) hb
          have p4 := hb.size
          replace hk0 := hk0.ext hb
          replace hk1 := hk1.ext hb
          have bl0 := Nat.lt_of_lt_of_le bl0 hb.size
          have bl1 := Nat.lt_of_lt_of_le bl1 hb.size
          clear hb
          clear  hk1
          have bx0_0 := hk0.at_ 0 _ rfl
          have fz0_0 := hk0.frozen 0
          have bx0_1 := hk0.at_ 1 _ rfl
          have fz0_1 := hk0.frozen 1
          have bx0_2 := hk0.at_ 2 _ rfl
          have fz0_2 := hk0.frozen 2
          have bx0_3 := hk0.at_ 3 _ rfl
          have fz0_3 := hk0.frozen 3
          have bx0_4 := hk0.at_ 4 _ rfl
          have fz0_4 := hk0.frozen 4
          have bx0_5 := hk0.at_ 5 _ rfl
          have fz0_5 := hk0.frozen 5
          have bx0_6 := hk0.at_ 6 _ rfl
          have fz0_6 := hk0.frozen 6
          have bx0_7 := hk0.at_ 7 _ rfl
          have fz0_7 := hk0.frozen 7
          go_wp2_with fail
          have hcc := ChgA.refl (w.heap.size) w4
          obtain ⟨w5_0, hW0⟩ : ∃ W, W = w4.setCell ⟨w.heap.size, 0, none⟩ (.int .i64 0) := ⟨_, rfl⟩
          replace hcc : ChgA (w.heap.size) w4 w5_0 := by rw [hW0]; exact hcc.set _ _
          replace hk0 : Blk w5_0 (w.heap.size) 29 [.int .i64 0, .int .i64 0, .int .i64 0, .int .i64 0, .int .i64 0, .int .i64 0, .int .i64 0, .string ⟨#[]⟩] := by rw [hW0]; exact hk0.set_ 0 _
          rw [← hW0]
          clear hW0
          obtain ⟨w5_1, hW0⟩ : ∃ W, W = w5_0.setCell ⟨w.heap.size, 1, none⟩ (.int .i64 0) := ⟨_, rfl⟩
          replace hcc : ChgA (w.heap.size) w4 w5_1 := by rw [hW0]; exact hcc.set _ _
          replace hk0 : Blk w5_1 (w.heap.size) 29 [.int .i64 0, .int .i64 0, .int .i64 0, .int .i64 0, .int .i64 0, .int .i64 0, .int .i64 0, .string ⟨#[]⟩] := by rw [hW0]; exact hk0.set_ 1 _
          rw [← hW0]
          clear hW0
          obtain ⟨w5_2, hW0⟩ : ∃ W, W = w5_1.setCell ⟨w.heap.size, 2, none⟩ (.int .i64 0) := ⟨_, rfl⟩
          replace hcc : ChgA (w.heap.size) w4 w5_2 := by rw [hW0]; exact hcc.set _ _
          replace hk0 : Blk w5_2 (w.heap.size) 29 [.int .i64 0, .int .i64 0, .int .i64 0, .int .i64 0, .int .i64 0, .int .i64 0, .int .i64 0, .string ⟨#[]⟩] := by rw [hW0]; exact hk0.set_ 2 _
          rw [← hW0]
          clear hW0
          obtain ⟨w5_3, hW0⟩ : ∃ W, W = w5_2.setCell ⟨w.heap.size, 3, none⟩ (.int .i64 0) := ⟨_, rfl⟩
          replace hcc : ChgA (w.heap.size) w4 w5_3 := by rw [hW0]; exact hcc.set _ _
          replace hk0 : Blk w5_3 (w.heap.size) 29 [.int .i64 0, .int .i64 0, .int .i64 0, .int .i64 0, .int .i64 0, .int .i64 0, .int .i64 0, .string ⟨#[]⟩] := by rw [hW0]; exact hk0.set_ 3 _
          rw [← hW0]
          clear hW0
          obtain ⟨w5_4, hW0⟩ : ∃ W, W = w5_3.setCell ⟨w.heap.size, 4, none⟩ (.int .i64 0) := ⟨_, rfl⟩
          replace hcc : ChgA (w.heap.size) w4 w5_4 := by rw [hW0]; exact hcc.set _ _
          replace hk0 : Blk w5_4 (w.heap.size) 29 [.int .i64 0, .int .i64 0, .int .i64 0, .int .i64 0, .int .i64 0, .int .i64 0, .int .i64 0, .string ⟨#[]⟩] := by rw [hW0]; exact hk0.set_ 4 _
          rw [← hW0]
          clear hW0
          obtain ⟨w5_5, hW0⟩ : ∃ W, W = w5_4.setCell ⟨w.heap.size, 5, none⟩ (.int .i64 0) := ⟨_, rfl⟩
          replace hcc : ChgA (w.heap.size) w4 w5_5 := by rw [hW0]; exact hcc.set _ _
          replace hk0 : Blk w5_5 (w.heap.size) 29 [.int .i64 0, .int .i64 0, .int .i64 0, .int .i64 0, .int .i64 0, .int .i64 0, .int .i64 0, .string ⟨#[]⟩] := by rw [hW0]; exact hk0.set_ 5 _
          rw [← hW0]
          clear hW0
          obtain ⟨w5_6, hW0⟩ : ∃ W, W = w5_5.setCell ⟨w.heap.size, 6, none⟩ (.int .i64 0) := ⟨_, rfl⟩
          replace hcc : ChgA (w.heap.size) w4 w5_6 := by rw [hW0]; exact hcc.set _ _
          replace hk0 : Blk w5_6 (w.heap.size) 29 [.int .i64 0, .int .i64 0, .int .i64 0, .int .i64 0, .int .i64 0, .int .i64 0, .int .i64 0, .string ⟨#[]⟩] := by rw [hW0]; exact hk0.set_ 6 _
          rw [← hW0]
          clear hW0
          obtain ⟨w5, hW0⟩ : ∃ W, W = w5_6.setCell ⟨w.heap.size, 7, none⟩ (.string ⟨#[]⟩) := ⟨_, rfl⟩
          replace hcc : ChgA (w.heap.size) w4 w5 := by rw [hW0]; exact hcc.set _ _
          replace hk0 : Blk w5 (w.heap.size) 29 [.int .i64 0, .int .i64 0, .int .i64 0, .int .i64 0, .int .i64 0, .int .i64 0, .int .i64 0, .string ⟨#[]⟩] := by rw [hW0]; exact hk0.set_ 7 _
          rw [← hW0]
          clear hW0
          have hc := hcc
          have k5 := hc.below (by omega) k4
          have p5 := hc.size
          replace bl0 := Nat.lt_of_lt_of_le bl0 (Nat.le_of_eq p5.symm)
          replace bl1 := Nat.lt_of_lt_of_le bl1 (Nat.le_of_eq p5.symm)
          clear hc hcc
          clear bx0_0 fz0_0 bx0_1 fz0_1 bx0_2 fz0_2 bx0_3 fz0_3 bx0_4 fz0_4 bx0_5 fz0_5 bx0_6 fz0_6 bx0_7 fz0_7
          have bx0_0 := hk0.at_ 0 _ rfl
          have bx0_1 := hk0.at_ 1 _ rfl
          have bx0_2 := hk0.at_ 2 _ rfl
          have bx0_3 := hk0.at_ 3 _ rfl
          have bx0_4 := hk0.at_ 4 _ rfl
          have bx0_5 := hk0.at_ 5 _ rfl
          have bx0_6 := hk0.at_ 6 _ rfl
          have bx0_7 := hk0.at_ 7 _ rfl
          refine bodyPost_ret (v := .tuple #[.agg #[.int .i64 0, .int .i64 0, .int .i64 0, .int .i64 0, .int .i64 0, .int .i64 0, .int .i64 0, .string ⟨#[]⟩], .bool false]) (by simp [results, Try.results75, go_sem, bx0_0, bx0_1, bx0_2, bx0_3, bx0_4, bx0_5, bx0_6, bx0_7]) rfl ?_
          exact ⟨rfl, k5⟩
        · simp only [hsg, if_true] at hbs
          obtain ⟨P, hP⟩ : ∃ P, segS si di 17 a0 a1 0 0 0 0 B = P := ⟨_, rfl⟩
          simp only [hP] at hbs
          cases hc : P.toList == s.toList
          · have hok0 : okR si di 17 s = false := by rw [okR, hcond, d1, d2, d3, d4, d5, g0, g1, hsg, hP, hc]; rfl
            rw [hok0]
            simp only [sgI_no hok0, sgT_no hok0]
            clear hcond hsg hok0 hP d1 d2 d3 d4 d5 g0 g1
            go_enter Try.func75, Try.ntmps75
            go_wp2_with fail
            have k0 : Below w.heap.size w (w.alloc (.cells #[.int .i64 0, .int .i64 0, .int .i64 0, .int .i64 0, .int .i64 0, .int .i64 0, .int .i64 0, .string ⟨#[]⟩] 29)) := by go_grown
            have bl0 : w.heap.size < (w.alloc (.cells #[.int .i64 0, .int .i64 0, .int .i64 0, .int .i64 0, .int .i64 0, .int .i64 0, .int .i64 0, .string ⟨#[]⟩] 29)).heap.size := by go_size
            have hk0 : Blk (w.alloc (.cells #[.int .i64 0, .int .i64 0, .int .i64 0, .int .i64 0, .int .i64 0, .int .i64 0, .int .i64 0, .string ⟨#[]⟩] 29)) (w.heap.size) 29 [.int .i64 0, .int .i64 0, .int .i64 0, .int .i64 0, .int .i64 0, .int .i64 0, .int .i64 0, .string ⟨#[]⟩] := by simpa using Blk.new w 29 [.int .i64 0, .int .i64 0, .int .i64 0, .int .i64 0, .int .i64 0, .int .i64 0, .int .i64 0, .string ⟨#[]⟩]
            have p0 := k0.size
            generalize hW0 : (w.alloc (.cells #[.int .i64 0, .int .i64 0, .int .i64 0, .int .i64 0, .int .i64 0, .int .i64 0, .int .i64 0, .string ⟨#[]⟩] 29)) = w0 at *
            clear hW0
            refine (ha _).mono ?_
            rintro e w1 ⟨rfl, hb⟩
            have k1 : Below w.heap.size w w1 := ext_step k0 (by omega) hb
            have p1 := hb.size
            replace hk0 := hk0.ext hb
            have bl0 := Nat.lt_of_lt_of_le bl0 hb.size
            clear hb
            go_wp2_with fail
            refine (hc2 _).mono ?_
            rintro e w2 ⟨rfl, hb⟩
            have k2 : Below w.heap.size w w2 := ext_step k1 (by omega) hb
            have p2 := hb.size
            replace hk0 := hk0.ext hb
            have bl0 := Nat.lt_of_lt_of_le bl0 hb.size
            clear hb
            go_wp2_with fail
            obtain ⟨w3, hW0⟩ : ∃ W, W = (w2.alloc (.cells #[.int .i64 17, .int .i64 a0, .int .i64 a1, .int .i64 0, .int .i64 0, .int .i64 0, .int .i64 0, .string B] 29)) := ⟨_, rfl⟩
            have hb : Below w2.heap.size w2 w3 := by rw [hW0]; go_grown
            have bl1 : w2.heap.size < w3.heap.size := by rw [hW0]; go_size
            have hk1 : Blk w3 (w2.heap.size) 29 [.int .i64 17, .int .i64 a0, .int .i64 a1, .int .i64 0, .int .i64 0, .int .i64 0, .int .i64 0, .string B] := by rw [hW0]; exact Blk.new _ _ _
            rw [← hW0]
            clear hW0
            have k3 := ext_step k2 (by omega) hb
            have p3 := hb.size
            replace hk0 := hk0.ext hb
            have bl0 := Nat.lt_of_lt_of_le bl0 hb.size
            clear hb
            refine (hbs _).mono ?_
            rintro e w4 ⟨rfl, hb⟩
            have k4 : Below w.heap.size w w4 := ext_step k3 (by omega) hb
            have p4 := hb.size
            replace hk0 := hk0.ext hb
            replace hk1 := hk1.ext hb
            have bl0 := Nat.lt_of_lt_of_le bl0 hb.size
            have bl1 := Nat.lt_of_lt_of_le bl1 hb.size
            clear hb
            clear  hk1
            have bx0_0 := hk0.at_ 0 _ rfl
            have fz0_0 := hk0.frozen 0
            have bx0_1 := hk0.at_ 1 _ rfl
            have fz0_1 := hk0.frozen 1
            have bx0_2 := hk0.at_ 2 _ rfl
            have fz0_2 := hk0.frozen 2
            have bx0_3 := hk0.at_ 3 _ rfl
            have fz0_3 := hk0.frozen 3
            have bx0_4 := hk0.at_ 4 _ rfl
            have fz0_4 := hk0.frozen 4
            have bx0_5 := hk0.at_ 5 _ rfl
            have fz0_5 := hk0.frozen 5
            have bx0_6 := hk0.at_ 6 _ rfl
            have fz0_6 := hk0.frozen 6
            have bx0_7 := hk0.at_ 7 _ rfl
            have fz0_7 := hk0.frozen 7
            go_wp2_with fail
            have hcc := ChgA.refl (w.heap.size) w4
            obtain ⟨w5_0, hW0⟩ : ∃ W, W = w4.setCell ⟨w.heap.size, 0, none⟩ (.int .i64 0) := ⟨_, rfl⟩
            replace hcc : ChgA (w.heap.size) w4 w5_0 := by rw [hW0]; exact hcc.set _ _
            replace hk0 : Blk w5_0 (w.heap.size) 29 [.int .i64 0, .int .i64 0, .int .i64 0, .int .i64 0, .int .i64 0, .int .i64 0, .int .i64 0, .string ⟨#[]⟩] := by rw [hW0]; exact hk0.set_ 0 _
            rw [← hW0]
            clear hW0
            obtain ⟨w5_1, hW0⟩ : ∃ W, W = w5_0.setCell ⟨w.heap.size, 1, none⟩ (.int .i64 0) := ⟨_, rfl⟩
            replace hcc : ChgA (w.heap.size) w4 w5_1 := by rw [hW0]; exact hcc.set _ _
            replace hk0 : Blk w5_1 (w.heap.size) 29 [.int .i64 0, .int .i64 0, .int .i64 0, .int .i64 0, .int .i64 0, .int .i64 0, .int .i64 0, .string ⟨#[]⟩] := by rw [hW0]; exact hk0.set_ 1 _
            rw [← hW0]
            clear hW0
            obtain ⟨w5_2, hW0⟩ : ∃ W, W = w5_1.setCell ⟨w.heap.size, 2, none⟩ (.int .i64 0) := ⟨_, rfl⟩
            replace hcc : ChgA (w.heap.size) w4 w5_2 := by rw [hW0]; exact hcc.set _ _
            replace hk0 : Blk w5_2 (w.heap.size) 29 [.int .i64 0, .int .i64 0, .int .i64 0, .int .i64 0, .int .i64 0, .int .i64 0, .int .i64 0, .string ⟨#[]⟩] := by rw [hW0]; exact hk0.set_ 2 _
            rw [← hW0]
            clear hW0
            obtain ⟨w5_3, hW0⟩ : ∃ W, W = w5_2.setCell ⟨w.heap.size, 3, none⟩ (.int .i64 0) := ⟨_, rfl⟩
            replace hcc : ChgA (w.heap.size) w4 w5_3 := by rw [hW0]; exact hcc.set _ _
            replace hk0 : Blk w5_3 (w.heap.size) 29 [.int .i64 0, .int .i64 0, .int .i64 0, .int .i64 0, .int .i64 0, .int .i64 0, .int .i64 0, .string ⟨#[]⟩] := by rw [hW0]; exact hk0.set_ 3 _
            rw [← hW0]
            clear hW0
            obtain ⟨w5_4, hW0⟩ : ∃ W, W = w5_3.setCell ⟨w.heap.size, 4, none⟩ (.int .i64 0) := ⟨_, rfl⟩
            replace hcc : ChgA (w.heap.size) w4 w5_4 := by rw [hW0]; exact hcc.set _ _
            replace hk0 : Blk w5_4 (w.heap.size) 29 [.int .i64 0, .int .i64 0, .int .i64 0, .int .i64 0, .int .i64 0, .int .i64 0, .int .i64 0, .string ⟨#[]⟩] := by rw [hW0]; exact hk0.set_ 4 _
            rw [← hW0]
            clear hW0
            obtain ⟨w5_5, hW0⟩ : ∃ W, W = w5_4.setCell ⟨w.heap.size, 5, none⟩ (.int .i64 0) := ⟨_, rfl⟩
            replace hcc : ChgA (w.heap.size) w4 w5_5 := by rw [hW0]; exact hcc.set _ _
            replace hk0 : Blk w5_5 (w.heap.size) 29 [.int .i64 0, .int .i64 0, .int .i64 0, .int .i64 0, .int .i64 0, .int .i64 0, .int .i64 0, .string ⟨#[]⟩] := by rw [hW0]; exact hk0.set_ 5 _
            rw [← hW0]
            clear hW0
            obtain ⟨w5_6, hW0⟩ : ∃ W, W = w5_5.setCell ⟨w.heap.size, 6, none⟩ (.int .i64 0) := ⟨_, rfl⟩
            replace hcc : ChgA (w.heap.size) w4 w5_6 := by rw [hW0]; exact hcc.set _ _
            replace hk0 : Blk w5_6 (w.heap.size) 29 [.int .i64 0, .int .i64 0, .int .i64 0, .int .i64 0, .int .i64 0, .int .i64 0, .int .i64 0, .string ⟨#[]⟩] := by rw [hW0]; exact hk0.set_ 6 _
            rw [← hW0]
            clear hW0
            obtain ⟨w5, hW0⟩ : ∃ W, W = w5_6.setCell ⟨w.heap.size, 7, none⟩ (.string ⟨#[]⟩) := ⟨_, rfl⟩
            replace hcc : ChgA (w.heap.size) w4 w5 := by rw [hW0]; exact hcc.set _ _
            replace hk0 : Blk w5 (w.heap.size) 29 [.int .i64 0, .int .i64 0, .int .i64 0, .int .i64 0, .int .i64 0, .int .i64 0, .int .i64 0, .string ⟨#[]⟩] := by rw [hW0]; exact hk0.set_ 7 _
            rw [← hW0]
            clear hW0
            have hc := hcc
            have k5 := hc.below (by omega) k4
            have p5 := hc.size
            replace bl0 := Nat.lt_of_lt_of_le bl0 (Nat.le_of_eq p5.symm)
            replace bl1 := Nat.lt_of_lt_of_le bl1 (Nat.le_of_eq p5.symm)
            clear hc hcc
            clear bx0_0 fz0_0 bx0_1 fz0_1 bx0_2 fz0_2 bx0_3 fz0_3 bx0_4 fz0_4 bx0_5 fz0_5 bx0_6 fz0_6 bx0_7 fz0_7
            have bx0_0 := hk0.at_ 0 _ rfl
            have bx0_1 := hk0.at_ 1 _ rfl
            have bx0_2 := hk0.at_ 2 _ rfl
            have bx0_3 := hk0.at_ 3 _ rfl
            have bx0_4 := hk0.at_ 4 _ rfl
            have bx0_5 := hk0.at_ 5 _ rfl
            have bx0_6 := hk0.at_ 6 _ rfl
            have bx0_7 := hk0.at_ 7 _ rfl
            refine bodyPost_ret (v := .tuple #[.agg #[.int .i64 0, .int .i64 0, .int .i64 0, .int .i64 0, .int .i64 0, .int .i64 0, .int .i64 0, .string ⟨#[]⟩], .bool false]) (by simp [results, Try.results75, go_sem, bx0_0, bx0_1, bx0_2, bx0_3, bx0_4, bx0_5, bx0_6, bx0_7]) rfl ?_
            exact ⟨rfl, k5⟩
          · have hok0 : okR si di 17 s = true := by rw [okR, hcond, d1, d2, d3, d4, d5, g0, g1, hsg, hP, hc]; rfl
            rw [hok0]
            simp only [sgI_yes hok0, sgT_yes hok0]
            clear hcond hsg hok0 hP d1 d2 d3 d4 d5 g0 g1
            go_enter Try.func75, Try.ntmps75
            go_wp2_with fail
            have k0 : Below w.heap.size w (w.alloc (.cells #[.int .i64 0, .int .i64 0, .int .i64 0, .int .i64 0, .int .i64 0, .int .i64 0, .int .i64 0, .string ⟨#[]⟩] 29)) := by go_grown
            have bl0 : w.heap.size < (w.alloc (.cells #[.int .i64 0, .int .i64 0, .int .i64 0, .int .i64 0, .int .i64 0, .int .i64 0, .int .i64 0, .string ⟨#[]⟩] 29)).heap.size := by go_size
            have hk0 : Blk (w.alloc (.cells #[.int .i64 0, .int .i64 0, .int .i64 0, .int .i64 0, .int .i64 0, .int .i64 0, .int .i64 0, .string ⟨#[]⟩] 29)) (w.heap.size) 29 [.int .i64 0, .int .i64 0, .int .i64 0, .int .i64 0, .int .i64 0, .int .i64 0, .int .i64 0, .string ⟨#[]⟩] := by simpa using Blk.new w 29 [.int .i64 0, .int .i64 0, .int .i64 0, .int .i64 0, .int .i64 0, .int .i64 0, .int .i64 0, .string ⟨#[]⟩]
            have p0 := k0.size
            generalize hW0 : (w.alloc (.cells #[.int .i64 0, .int .i64 0, .int .i64 0, .int .i64 0, .int .i64 0, .int .i64 0, .int .i64 0, .string ⟨#[]⟩] 29)) = w0 at *
            clear hW0
            refine (ha _).mono ?_
            rintro e w1 ⟨rfl, hb⟩
            have k1 : Below w.heap.size w w1 := ext_step k0 (by omega) hb
            have p1 := hb.size
            replace hk0 := hk0.ext hb
            have bl0 := Nat.lt_of_lt_of_le bl0 hb.size
            clear hb
            go_wp2_with fail
            refine (hc2 _).mono ?_
            rintro e w2 ⟨rfl, hb⟩
            have k2 : Below w.heap.size w w2 := ext_step k1 (by omega) hb
            have p2 := hb.size
            replace hk0 := hk0.ext hb
            have bl0 := Nat.lt_of_lt_of_le bl0 hb.size
            clear hb
            go_wp2_with fail
            obtain ⟨w3, hW0⟩ : ∃ W, W = (w2.alloc (.cells #[.int .i64 17, .int .i64 a0, .int .i64 a1, .int .i64 0, .int .i64 0, .int .i64 0, .int .i64 0, .string B] 29)) := ⟨_, rfl⟩
            have hb : Below w2.heap.size w2 w3 := by rw [hW0]; go_grown
            have bl1 : w2.heap.size < w3.heap.size := by rw [hW0]; go_size
            have hk1 : Blk w3 (w2.heap.size) 29 [.int .i64 17, .int .i64 a0, .int .i64 a1, .int .i64 0, .int .i64 0, .int .i64 0, .int .i64 0, .string B] := by rw [hW0]; exact Blk.new _ _ _
            rw [← hW0]
            clear hW0
            have k3 := ext_step k2 (by omega) hb
            have p3 := hb.size
            replace hk0 := hk0.ext hb
            have bl0 := Nat.lt_of_lt_of_le bl0 hb.size
            clear hb
            refine (hbs _).mono ?_
            rintro e w4 ⟨rfl, hb⟩
            have k4 : Below w.heap.size w w4 := ext_step k3 (by omega) hb
            have p4 := hb.size
            replace hk0 := hk0.ext hb
            replace hk1 := hk1.ext hb
            have bl0 := Nat.lt_of_lt_of_le bl0 hb.size
            have bl1 := Nat.lt_of_lt_of_le bl1 hb.size
            clear hb
            have bx1_0 := hk1.at_ 0 _ rfl
            have bx1_1 := hk1.at_ 1 _ rfl
            have bx1_2 := hk1.at_ 2 _ rfl
            have bx1_3 := hk1.at_ 3 _ rfl
            have bx1_4 := hk1.at_ 4 _ rfl
            have bx1_5 := hk1.at_ 5 _ rfl
            have bx1_6 := hk1.at_ 6 _ rfl
            have bx1_7 := hk1.at_ 7 _ rfl
            have bx0_0 := hk0.at_ 0 _ rfl
            have fz0_0 := hk0.frozen 0
            have bx0_1 := hk0.at_ 1 _ rfl
            have fz0_1 := hk0.frozen 1
            have bx0_2 := hk0.at_ 2 _ rfl
            have fz0_2 := hk0.frozen 2
            have bx0_3 := hk0.at_ 3 _ rfl
            have fz0_3 := hk0.frozen 3
            have bx0_4 := hk0.at_ 4 _ rfl
            have fz0_4 := hk0.frozen 4
            have bx0_5 := hk0.at_ 5 _ rfl
            have fz0_5 := hk0.frozen 5
            have bx0_6 := hk0.at_ 6 _ rfl
            have fz0_6 := hk0.frozen 6
            have bx0_7 := hk0.at_ 7 _ rfl
            have fz0_7 := hk0.frozen 7
            go_wp2_with fail
            clear bx1_0 bx1_1 bx1_2 bx1_3 bx1_4 bx1_5 bx1_6 bx1_7 hk1
            have hcc := ChgA.refl (w.heap.size) w4
            obtain ⟨w5_0, hW0⟩ : ∃ W, W = w4.setCell ⟨w.heap.size, 0, none⟩ (.int .i64 17) := ⟨_, rfl⟩
            replace hcc : ChgA (w.heap.size) w4 w5_0 := by rw [hW0]; exact hcc.set _ _
            replace hk0 : Blk w5_0 (w.heap.size) 29 [.int .i64 17, .int .i64 0, .int .i64 0, .int .i64 0, .int .i64 0, .int .i64 0, .int .i64 0, .string ⟨#[]⟩] := by rw [hW0]; exact hk0.set_ 0 _
            rw [← hW0]
            clear hW0
            obtain ⟨w5_1, hW0⟩ : ∃ W, W = w5_0.setCell ⟨w.heap.size, 1, none⟩ (.int .i64 a0) := ⟨_, rfl⟩
            replace hcc : ChgA (w.heap.size) w4 w5_1 := by rw [hW0]; exact hcc.set _ _
            replace hk0 : Blk w5_1 (w.heap.size) 29 [.int .i64 17, .int .i64 a0, .int .i64 0, .int .i64 0, .int .i64 0, .int .i64 0, .int .i64 0, .string ⟨#[]⟩] := by rw [hW0]; exact hk0.set_ 1 _
            rw [← hW0]
            clear hW0
            obtain ⟨w5_2, hW0⟩ : ∃ W, W = w5_1.setCell ⟨w.heap.size, 2, none⟩ (.int .i64 a1) := ⟨_, rfl⟩
            replace hcc : ChgA (w.heap.size) w4 w5_2 := by rw [hW0]; exact hcc.set _ _
            replace hk0 : Blk w5_2 (w.heap.size) 29 [.int .i64 17, .int .i64 a0, .int .i64 a1, .int .i64 0, .int .i64 0, .int .i64 0, .int .i64 0, .string ⟨#[]⟩] := by rw [hW0]; exact hk0.set_ 2 _
            rw [← hW0]
            clear hW0
            obtain ⟨w5_3, hW0⟩ : ∃ W, W = w5_2.setCell ⟨w.heap.size, 3, none⟩ (.int .i64 0) := ⟨_, rfl⟩
            replace hcc : ChgA (w.heap.size) w4 w5_3 := by rw [hW0]; exact hcc.set _ _
            replace hk0 : Blk w5_3 (w.heap.size) 29 [.int .i64 17, .int .i64 a0, .int .i64 a1, .int .i64 0, .int .i64 0, .int .i64 0, .int .i64 0, .string ⟨#[]⟩] := by rw [hW0]; exact hk0.set_ 3 _
            rw [← hW0]
            clear hW0
            obtain ⟨w5_4, hW0⟩ : ∃ W, W = w5_3.setCell ⟨w.heap.size, 4, none⟩ (.int .i64 0) := ⟨_, rfl⟩
            replace hcc : ChgA (w.heap.size) w4 w5_4 := by rw [hW0]; exact hcc.set _ _
            replace hk0 : Blk w5_4 (w.heap.size) 29 [.int .i64 17, .int .i64 a0, .int .i64 a1, .int .i64 0, .int .i64 0, .int .i64 0, .int .i64 0, .string ⟨#[]⟩] := by rw [hW0]; exact hk0.set_ 4 _
            rw [← hW0]
            clear hW0
            obtain ⟨w5_5, hW0⟩ : ∃ W, W = w5_4.setCell ⟨w.heap.size, 5, none⟩ (.int .i64 0) := ⟨_, rfl⟩
            replace hcc : ChgA (w.heap.size) w4 w5_5 := by rw [hW0]; exact hcc.set _ _
            replace hk0 : Blk w5_5 (w.heap.size) 29 [.int .i64 17, .int .i64 a0, .int .i64 a1, .int .i64 0, .int .i64 0, .int .i64 0, .int .i64 0, .string ⟨#[]⟩] := by rw [hW0]; exact hk0.set_ 5 _
            rw [← hW0]
            clear hW0
            obtain ⟨w5_6, hW0⟩ : ∃ W, W = w5_5.setCell ⟨w.heap.size, 6, none⟩ (.int .i64 0) := ⟨_, rfl⟩
            replace hcc : ChgA (w.heap.size) w4 w5_6 := by rw [hW0]; exact hcc.set _ _
            replace hk0 : Blk w5_6 (w.heap.size) 29 [.int .i64 17, .int .i64 a0, .int .i64 a1, .int .i64 0, .int .i64 0, .int .i64 0, .int .i64 0, .string ⟨#[]⟩] := by rw [hW0]; exact hk0.set_ 6 _
            rw [← hW0]
            clear hW0
            obtain ⟨w5, hW0⟩ : ∃ W, W = w5_6.setCell ⟨w.heap.size, 7, none⟩ (.string B) := ⟨_, rfl⟩
            replace hcc : ChgA (w.heap.size) w4 w5 := by rw [hW0]; exact hcc.set _ _
            replace hk0 : Blk w5 (w.heap.size) 29 [.int .i64 17, .int .i64 a0, .int .i64 a1, .int .i64 0, .int .i64 0, .int .i64 0, .int .i64 0, .string B] := by rw [hW0]; exact hk0.set_ 7 _
            rw [← hW0]
            clear hW0
            have hc := hcc
            have k5 := hc.below (by omega) k4
            have p5 := hc.size
            replace bl0 := Nat.lt_of_lt_of_le bl0 (Nat.le_of_eq p5.symm)
            replace bl1 := Nat.lt_of_lt_of_le bl1 (Nat.le_of_eq p5.symm)
            clear hc hcc
            clear bx0_0 fz0_0 bx0_1 fz0_1 bx0_2 fz0_2 bx0_3 fz0_3 bx0_4 fz0_4 bx0_5 fz0_5 bx0_6 fz0_6 bx0_7 fz0_7
            have bx0_0 := hk0.at_ 0 _ rfl
            have bx0_1 := hk0.at_ 1 _ rfl
            have bx0_2 := hk0.at_ 2 _ rfl
            have bx0_3 := hk0.at_ 3 _ rfl
            have bx0_4 := hk0.at_ 4 _ rfl
            have bx0_5 := hk0.at_ 5 _ rfl
            have bx0_6 := hk0.at_ 6 _ rfl
            have bx0_7 := hk0.at_ 7 _ rfl
            refine bodyPost_ret (v := .tuple #[.agg #[.int .i64 17, .int .i64 a0, .int .i64 a1, .int .i64 0, .int .i64 0, .int .i64 0, .int .i64 0, .string B], .bool true]) (by simp [results, Try.results75, go_sem, bx0_0, bx0_1, bx0_2, bx0_3, bx0_4, bx0_5, bx0_6, bx0_7]) rfl ?_
            exact ⟨rfl, k5⟩
      · have l8 : ¬ (8 : Int) ≤ (s.size : Int) := by omega
        have hok0 : okR si di 17 s = false := by simp [okR, tcpB, udpB, h8_]
        rw [hok0]
        simp only [sgI_no hok0, sgT_no hok0]
        clear hok0
        go_enter Try.func75, Try.ntmps75
        go_wp2_with fail
        have k0 : Below w.heap.size w (w.alloc (.cells #[.int .i64 0, .int .i64 0, .int .i64 0, .int .i64 0, .int .i64 0, .int .i64 0, .int .i64 0, .string ⟨#[]⟩] 29)) := by go_grown
        have bl0 : w.heap.size < (w.alloc (.cells #[.int .i64 0, .int .i64 0, .int .i64 0, .int .i64 0, .int .i64 0, .int .i64 0, .int .i64 0, .string ⟨#[]⟩] 29)).heap.size := by go_size
        have hk0 : Blk (w.alloc (.cells #[.int .i64 0, .int .i64 0, .int .i64 0, .int .i64 0, .int .i64 0, .int .i64 0, .int .i64 0, .string ⟨#[]⟩] 29)) (w.heap.size) 29 [.int .i64 0, .int .i64 0, .int .i64 0, .int .i64 0, .int .i64 0, .int .i64 0, .int .i64 0, .string ⟨#[]⟩] := by simpa using Blk.new w 29 [.int .i64 0, .int .i64 0, .int .i64 0, .int .i64 0, .int .i64 0, .int .i64 0, .int .i64 0, .string ⟨#[]⟩]
        have p0 := k0.size
        generalize hW0 : (w.alloc (.cells #[.int .i64 0, .int .i64 0, .int .i64 0, .int .i64 0, .int .i64 0, .int .i64 0, .int .i64 0, .string ⟨#[]⟩] 29)) = w0 at *
        clear hW0
        refine (ha _).mono ?_
        rintro e w1 ⟨rfl, hb⟩
        have k1 : Below w.heap.size w w1 := ext_step k0 (by omega) hb
        have p1 := hb.size
        replace hk0 := hk0.ext hb
        have bl0 := Nat.lt_of_lt_of_le bl0 hb.size
        clear hb
        go_wp2_with fail
        refine (hc2 _).mono ?_
        rintro e w2 ⟨rfl, hb⟩
        have k2 : Below w.heap.size w w2 := ext_step k1 (by omega) hb
        have p2 := hb.size
        replace hk0 := hk0.ext hb
        have bl0 := Nat.lt_of_lt_of_le bl0 hb.size
        clear hb
        go_upto_region 2 with fail
        obtain ⟨w3, hW0⟩ : ∃ W, W = (w2.alloc (.cells #[.int .i64 17, .int .i64 a0, .int .i64 a1, .int .i64 0, .int .i64 0, .int .i64 0, .int .i64 0, .string ⟨#[]⟩] 29)) := ⟨_, rfl⟩
        have hb : Below w2.heap.size w2 w3 := by rw [hW0]; go_grown
        have bl1 : w2.heap.size < w3.heap.size := by rw [hW0]; go_size
        have hk1 : Blk w3 (w2.heap.size) 29 [.int .i64 17, .int .i64 a0, .int .i64 a1, .int .i64 0, .int .i64 0, .int .i64 0, .int .i64 0, .string ⟨#[]⟩] := by rw [hW0]; exact Blk.new _ _ _
        rw [← hW0]
        clear hW0
        have k3 := ext_step k2 (by omega) hb
        have p3 := hb.size
        replace hk0 := hk0.ext hb
        have bl0 := Nat.lt_of_lt_of_le bl0 hb.size
        clear hb
        clear  hk1
        have bx0_0 := hk0.at_ 0 _ rfl
        have fz0_0 := hk0.frozen 0
        have bx0_1 := hk0.at_ 1 _ rfl
        have fz0_1 := hk0.frozen 1
        have bx0_2 := hk0.at_ 2 _ rfl
        have fz0_2 := hk0.frozen 2
        have bx0_3 := hk0.at_ 3 _ rfl
        have fz0_3 := hk0.frozen 3
        have bx0_4 := hk0.at_ 4 _ rfl
        have fz0_4 := hk0.frozen 4
        have bx0_5 := hk0.at_ 5 _ rfl
        have fz0_5 := hk0.frozen 5
        have bx0_6 := hk0.at_ 6 _ rfl
        have fz0_6 := hk0.frozen 6
        have bx0_7 := hk0.at_ 7 _ rfl
        have fz0_7 := hk0.frozen 7
        go_wp2_with fail
        have hcc := ChgA.refl (w.heap.size) w3
        obtain ⟨w4_0, hW0⟩ : ∃ W, W = w3.setCell ⟨w.heap.size, 0, none⟩ (.int .i64 0) := ⟨_, rfl⟩
        replace hcc : ChgA (w.heap.size) w3 w4_0 := by rw [hW0]; exact hcc.set _ _
        replace hk0 : Blk w4_0 (w.heap.size) 29 [.int .i64 0, .int .i64 0, .int .i64 0, .int .i64 0, .int .i64 0, .int .i64 0, .int .i64 0, .string ⟨#[]⟩] := by rw [hW0]; exact hk0.set_ 0 _
        rw [← hW0]
        clear hW0
        obtain ⟨w4_1, hW0⟩ : ∃ W, W = w4_0.setCell ⟨w.heap.size, 1, none⟩ (.int .i64 0) := ⟨_, rfl⟩
        replace hcc : ChgA (w.heap.size) w3 w4_1 := by rw [hW0]; exact hcc.set _ _
        replace hk0 : Blk w4_1 (w.heap.size) 29 [.int .i64 0, .int .i64 0, .int .i64 0, .int .i64 0, .int .i64 0, .int .i64 0, .int .i64 0, .string ⟨#[]⟩] := by rw [hW0]; exact hk0.set_ 1 _
        rw [← hW0]
        clear hW0
        obtain ⟨w4_2, hW0⟩ : ∃ W, W = w4_1.setCell ⟨w.heap.size, 2, none⟩ (.int .i64 0) := ⟨_, rfl⟩
        replace hcc : ChgA (w.heap.size) w3 w4_2 := by rw [hW0]; exact hcc.set _ _
        replace hk0 : Blk w4_2 (w.heap.size) 29 [.int .i64 0, .int .i64 0, .int .i64 0, .int .i64 0, .int .i64 0, .int .i64 0, .int .i64 0, .string ⟨#[]⟩] := by rw [hW0]; exact hk0.set_ 2 _
        rw [← hW0]
        clear hW0
        obtain ⟨w4_3, hW0⟩ : ∃ W, W = w4_2.setCell ⟨w.heap.size, 3, none⟩ (.int .i64 0) := ⟨_, rfl⟩
        replace hcc : ChgA (w.heap.size) w3 w4_3 := by rw [hW0]; exact hcc.set _ _
        replace hk0 : Blk w4_3 (w.heap.size) 29 [.int .i64 0, .int .i64 0, .int .i64 0, .int .i64 0, .int .i64 0, .int .i64 0, .int .i64 0, .string ⟨#[]⟩] := by rw [hW0]; exact hk0.set_ 3 _
        rw [← hW0]
        clear hW0
        obtain ⟨w4_4, hW0⟩ : ∃ W, W = w4_3.setCell ⟨w.heap.size, 4, none⟩ (.int .i64 0) := ⟨_, rfl⟩
        replace hcc : ChgA (w.heap.size) w3 w4_4 := by rw [hW0]; exact hcc.set _ _
        replace hk0 : Blk w4_4 (w.heap.size) 29 [.int .i64 0, .int .i64 0, .int .i64 0, .int .i64 0, .int .i64 0, .int .i64 0, .int .i64 0, .string ⟨#[]⟩] := by rw [hW0]; exact hk0.set_ 4 _
        rw [← hW0]
        clear hW0
        obtain ⟨w4_5, hW0⟩ : ∃ W, W = w4_4.setCell ⟨w.heap.size, 5, none⟩ (.int .i64 0) := ⟨_, rfl⟩
        replace hcc : ChgA (w.heap.size) w3 w4_5 := by rw [hW0]; exact hcc.set _ _
        replace hk0 : Blk w4_5 (w.heap.size) 29 [.int .i64 0, .int .i64 0, .int .i64 0, .int .i64 0, .int .i64 0, .int .i64 0, .int .i64 0, .string ⟨#[]⟩] := by rw [hW0]; exact hk0.set_ 5 _
        rw [← hW0]
        clear hW0
        obtain ⟨w4_6, hW0⟩ : ∃ W, W = w4_5.setCell ⟨w.heap.size, 6, none⟩ (.int .i64 0) := ⟨_, rfl⟩
        replace hcc : ChgA (w.heap.size) w3 w4_6 := by rw [hW0]; exact hcc.set _ _
        replace hk0 : Blk w4_6 (w.heap.size) 29 [.int .i64 0, .int .i64 0, .int .i64 0, .int .i64 0, .int .i64 0, .int .i64 0, .int .i64 0, .string ⟨#[]⟩] := by rw [hW0]; exact hk0.set_ 6 _
        rw [← hW0]
        clear hW0
        obtain ⟨w4, hW0⟩ : ∃ W, W = w4_6.setCell ⟨w.heap.size, 7, none⟩ (.string ⟨#[]⟩) := ⟨_, rfl⟩
        replace hcc : ChgA (w.heap.size) w3 w4 := by rw [hW0]; exact hcc.set _ _
        replace hk0 : Blk w4 (w.heap.size) 29 [.int .i64 0, .int .i64 0, .int .i64 0, .int .i64 0, .int .i64 0, .int .i64 0, .int .i64 0, .string ⟨#[]⟩] := by rw [hW0]; exact hk0.set_ 7 _
        rw [← hW0]
        clear hW0
        have hc := hcc
        have k4 := hc.below (by omega) k3
        have p4 := hc.size
        replace bl0 := Nat.lt_of_lt_of_le bl0 (Nat.le_of_eq p4.symm)
        replace bl1 := Nat.lt_of_lt_of_le bl1 (Nat.le_of_eq p4.symm)
        clear hc hcc
        clear bx0_0 fz0_0 bx0_1 fz0_1 bx0_2 fz0_2 bx0_3 fz0_3 bx0_4 fz0_4 bx0_5 fz0_5 bx0_6 fz0_6 bx0_7 fz0_7
        have bx0_0 := hk0.at_ 0 _ rfl
        have bx0_1 := hk0.at_ 1 _ rfl
        have bx0_2 := hk0.at_ 2 _ rfl
        have bx0_3 := hk0.at_ 3 _ rfl
        have bx0_4 := hk0.at_ 4 _ rfl
        have bx0_5 := hk0.at_ 5 _ rfl
        have bx0_6 := hk0.at_ 6 _ rfl
        have bx0_7 := hk0.at_ 7 _ rfl
        refine bodyPost_ret (v := .tuple #[.agg #[.int .i64 0, .int .i64 0, .int .i64 0, .int .i64 0, .int .i64 0, .int .i64 0, .int .i64 0, .string ⟨#[]⟩], .bool false]) (by simp [results, Try.results75, go_sem, bx0_0, bx0_1, bx0_2, bx0_3, bx0_4, bx0_5, bx0_6, bx0_7]) rfl ?_
        exact ⟨rfl, k4⟩
    · have hok0 : okR si di kd s = false := by simp [okR, tcpB, udpB, h6, h17]
      rw [hok0]
      simp only [sgI_no hok0, sgT_no hok0]
      clear hok0
      go_enter Try.func75, Try.ntmps75
      go_wp2_with fail
      have k0 : Below w.heap.size w (w.alloc (.cells #[.int .i64 0, .int .i64 0, .int .i64 0, .int .i64 0, .int .i64 0, .int .i64 0, .int .i64 0, .string ⟨#[]⟩] 29)) := by go_grown
      have bl0 : w.heap.size < (w.alloc (.cells #[.int .i64 0, .int .i64 0, .int .i64 0, .int .i64 0, .int .i64 0, .int .i64 0, .int .i64 0, .string ⟨#[]⟩] 29)).heap.size := by go_size
      have hk0 : Blk (w.alloc (.cells #[.int .i64 0, .int .i64 0, .int .i64 0, .int .i64 0, .int .i64 0, .int .i64 0, .int .i64 0, .string ⟨#[]⟩] 29)) (w.heap.size) 29 [.int .i64 0, .int .i64 0, .int .i64 0, .int .i64 0, .int .i64 0, .int .i64 0, .int .i64 0, .string ⟨#[]⟩] := by simpa using Blk.new w 29 [.int .i64 0, .int .i64 0, .int .i64 0, .int .i64 0, .int .i64 0, .int .i64 0, .int .i64 0, .string ⟨#[]⟩]
      have p0 := k0.size
      generalize hW0 : (w.alloc (.cells #[.int .i64 0, .int .i64 0, .int .i64 0, .int .i64 0, .int .i64 0, .int .i64 0, .int .i64 0, .string ⟨#[]⟩] 29)) = w0 at *
      clear hW0
      refine (ha _).mono ?_
      rintro e w1 ⟨rfl, hb⟩
      have k1 : Below w.heap.size w w1 := ext_step k0 (by omega) hb
      have p1 := hb.size
      replace hk0 := hk0.ext hb
      have bl0 := Nat.lt_of_lt_of_le bl0 hb.size
      clear hb
      go_wp2_with fail
      refine (hc2 _).mono ?_
      rintro e w2 ⟨rfl, hb⟩
      have k2 : Below w.heap.size w w2 := ext_step k1 (by omega) hb
      have p2 := hb.size
      replace hk0 := hk0.ext hb
      have bl0 := Nat.lt_of_lt_of_le bl0 hb.size
      clear hb
      go_upto_region 2 with fail
      obtain ⟨w3, hW0⟩ : ∃ W, W = (w2.alloc (.cells #[.int .i64 kd, .int .i64 a0, .int .i64 a1, .int .i64 0, .int .i64 0, .int .i64 0, .int .i64 0, .string ⟨#[]⟩] 29)) := ⟨_, rfl⟩
      have hb : Below w2.heap.size w2 w3 := by rw [hW0]; go_grown
      have bl1 : w2.heap.size < w3.heap.size := by rw [hW0]; go_size
      have hk1 : Blk w3 (w2.heap.size) 29 [.int .i64 kd, .int .i64 a0, .int .i64 a1, .int .i64 0, .int .i64 0, .int .i64 0, .int .i64 0, .string ⟨#[]⟩] := by rw [hW0]; exact Blk.new _ _ _
      rw [← hW0]
      clear hW0
      have k3 := ext_step k2 (by omega) hb
      have p3 := hb.size
      replace hk0 := hk0.ext hb
      have bl0 := Nat.lt_of_lt_of_le bl0 hb.size
      clear hb
      clear  hk1
      have bx0_0 := hk0.at_ 0 _ rfl
      have fz0_0 := hk0.frozen 0
      have bx0_1 := hk0.at_ 1 _ rfl
      have fz0_1 := hk0.frozen 1
      have bx0_2 := hk0.at_ 2 _ rfl
      have fz0_2 := hk0.frozen 2
      have bx0_3 := hk0.at_ 3 _ rfl
      have fz0_3 := hk0.frozen 3
      have bx0_4 := hk0.at_ 4 _ rfl
      have fz0_4 := hk0.frozen 4
      have bx0_5 := hk0.at_ 5 _ rfl
      have fz0_5 := hk0.frozen 5
      have bx0_6 := hk0.at_ 6 _ rfl
      have fz0_6 := hk0.frozen 6
      have bx0_7 := hk0.at_ 7 _ rfl
      have fz0_7 := hk0.frozen 7
      go_wp2_with fail
      have hcc := ChgA.refl (w.heap.size) w3
      obtain ⟨w4_0, hW0⟩ : ∃ W, W = w3.setCell ⟨w.heap.size, 0, none⟩ (.int .i64 0) := ⟨_, rfl⟩
      replace hcc : ChgA (w.heap.size) w3 w4_0 := by rw [hW0]; exact hcc.set _ _
      replace hk0 : Blk w4_0 (w.heap.size) 29 [.int .i64 0, .int .i64 0, .int .i64 0, .int .i64 0, .int .i64 0, .int .i64 0, .int .i64 0, .string ⟨#[]⟩] := by rw [hW0]; exact hk0.set_ 0 _
      rw [← hW0]
      clear hW0
      obtain ⟨w4_1, hW0⟩ : ∃ W, W = w4_0.setCell ⟨w.heap.size, 1, none⟩ (.int .i64 0) := ⟨_, rfl⟩
      replace hcc : ChgA (w.heap.size) w3 w4_1 := by rw [hW0]; exact hcc.set _ _
      replace hk0 : Blk w4_1 (w.heap.size) 29 [.int .i64 0, .int .i64 0, .int .i64 0, .int .i64 0, .int .i64 0, .int .i64 0, .int .i64 0, .string ⟨#[]⟩] := by rw [hW0]; exact hk0.set_ 1 _
      rw [← hW0]
      clear hW0
      obtain ⟨w4_2, hW0⟩ : ∃ W, W = w4_1.setCell ⟨w.heap.size, 2, none⟩ (.int .i64 0) := ⟨_, rfl⟩
      replace hcc : ChgA (w.heap.size) w3 w4_2 := by rw [hW0]; exact hcc.set _ _
      replace hk0 : Blk w4_2 (w.heap.size) 29 [.int .i64 0, .int .i64 0, .int .i64 0, .int .i64 0, .int .i64 0, .int .i64 0, .int .i64 0, .string ⟨#[]⟩] := by rw [hW0]; exact hk0.set_ 2 _
      rw [← hW0]
      clear hW0
      obtain ⟨w4_3, hW0⟩ : ∃ W, W = w4_2.setCell ⟨w.heap.size, 3, none⟩ (.int .i64 0) := ⟨_, rfl⟩
      replace hcc : ChgA (w.heap.size) w3 w4_3 := by rw [hW0]; exact hcc.set _ _
      replace hk0 : Blk w4_3 (w.heap.size) 29 [.int .i64 0, .int .i64 0, .int .i64 0, .int .i64 0, .int .i64 0, .int .i64 0, .int .i64 0, .string ⟨#[]⟩] := by rw [hW0]; exact hk0.set_ 3 _
      rw [← hW0]
      clear hW0
      obtain ⟨w4_4, hW0⟩ : ∃ W, W = w4_3.setCell ⟨w.heap.size, 4, none⟩ (.int .i64 0) := ⟨_, rfl⟩
      replace hcc : ChgA (w.heap.size) w3 w4_4 := by rw [hW0]; exact hcc.set _ _
      replace hk0 : Blk w4_4 (w.heap.size) 29 [.int .i64 0, .int .i64 0, .int .i64 0, .int .i64 0, .int .i64 0, .int .i64 0, .int .i64 0, .string ⟨#[]⟩] := by rw [hW0]; exact hk0.set_ 4 _
      rw [← hW0]
      clear hW0
      obtain ⟨w4_5, hW0⟩ : ∃ W, W = w4_4.setCell ⟨w.heap.size, 5, none⟩ (.int .i64 0) := ⟨_, rfl⟩
      replace hcc : ChgA (w.heap.size) w3 w4_5 := by rw [hW0]; exact hcc.set _ _
      replace hk0 : Blk w4_5 (w.heap.size) 29 [.int .i64 0, .int .i64 0, .int .i64 0, .int .i64 0, .int .i64 0, .int .i64 0, .int .i64 0, .string ⟨#[]⟩] := by rw [hW0]; exact hk0.set_ 5 _
      rw [← hW0]
      clear hW0
      obtain ⟨w4_6, hW0⟩ : ∃ W, W = w4_5.setCell ⟨w.heap.size, 6, none⟩ (.int .i64 0) := ⟨_, rfl⟩
      replace hcc : ChgA (w.heap.size) w3 w4_6 := by rw [hW0]; exact hcc.set _ _
      replace hk0 : Blk w4_6 (w.heap.size) 29 [.int .i64 0, .int .i64 0, .int .i64 0, .int .i64 0, .int .i64 0, .int .i64 0, .int .i64 0, .string ⟨#[]⟩] := by rw [hW0]; exact hk0.set_ 6 _
      rw [← hW0]
      clear hW0
      obtain ⟨w4, hW0⟩ : ∃ W, W = w4_6.setCell ⟨w.heap.size, 7, none⟩ (.string ⟨#[]⟩) := ⟨_, rfl⟩
      replace hcc : ChgA (w.heap.size) w3 w4 := by rw [hW0]; exact hcc.set _ _
      replace hk0 : Blk w4 (w.heap.size) 29 [.int .i64 0, .int .i64 0, .int .i64 0, .int .i64 0, .int .i64 0, .int .i64 0, .int .i64 0, .string ⟨#[]⟩] := by rw [hW0]; exact hk0.set_ 7 _
      rw [← hW0]
      clear hW0
      have hc := hcc
      have k4 := hc.below (by omega) k3
      have p4 := hc.size
      replace bl0 := Nat.lt_of_lt_of_le bl0 (Nat.le_of_eq p4.symm)
      replace bl1 := Nat.lt_of_lt_of_le bl1 (Nat.le_of_eq p4.symm)
      clear hc hcc
      clear bx0_0 fz0_0 bx0_1 fz0_1 bx0_2 fz0_2 bx0_3 fz0_3 bx0_4 fz0_4 bx0_5 fz0_5 bx0_6 fz0_6 bx0_7 fz0_7
      have bx0_0 := hk0.at_ 0 _ rfl
      have bx0_1 := hk0.at_ 1 _ rfl
      have bx0_2 := hk0.at_ 2 _ rfl
      have bx0_3 := hk0.at_ 3 _ rfl
      have bx0_4 := hk0.at_ 4 _ rfl
      have bx0_5 := hk0.at_ 5 _ rfl
      have bx0_6 := hk0.at_ 6 _ rfl
      have bx0_7 := hk0.at_ 7 _ rfl
      refine bodyPost_ret (v := .tuple #[.agg #[.int .i64 0, .int .i64 0, .int .i64 0, .int .i64 0, .int .i64 0, .int .i64 0, .int .i64 0, .string ⟨#[]⟩], .bool false]) (by simp [results, Try.results75, go_sem, bx0_0, bx0_1, bx0_2, bx0_3, bx0_4, bx0_5, bx0_6, bx0_7]) rfl ?_
      exact ⟨rfl, k4⟩
set_option maxRecDepth 100000 in
set_option maxHeartbeats 4000000 in
theorem specParseSegment_c (si di kd : Int) (s : ByteArray) (w : World) (hs : s.size ≤ 1048576) (hsi : inB si 0 4294967295 = true) (hdi : inB di 0 4294967295 = true) :
    Calls Try.prog 125 #[.int .i64 si, .int .i64 di, .int .i64 kd, .string s] w fun e w' => e = .returned (.tuple #[.agg #[.int .i64 (sgI si di kd s kd), .int .i64 (sgI si di kd s (g16 s 0)), .int .i64 (sgI si di kd s (g16 s 2)), .int .i64 (sgI si di kd s (sqR kd s)), .int .i64 (sgI si di kd s (akR kd s)), .int .i64 (sgI si di kd s (flR kd s)), .int .i64 (sgI si di kd s (wnR kd s)), .string (sgT si di kd s (bdR kd s))], .bool (okR si di kd s)]) ∧ Below w.heap.size w w' := by
  have ha := fun u => specGet16_c s 0 u hs ⟨by decide, by decide⟩
  have hc2 := fun u => specGet16_c s 2 u hs ⟨by decide, by decide⟩
  obtain ⟨a0, g0⟩ : ∃ a, g16 s 0 = a := ⟨_, rfl⟩
  obtain ⟨a1, g1⟩ : ∃ a, g16 s 2 = a := ⟨_, rfl⟩
  simp only [g0] at ha
  simp only [g1] at hc2
  by_cases h6 : kd = 6
  · subst h6
    by_cases h20 : 20 ≤ s.size
    · have h4 := fun u => specGet32_c s 4 u hs ⟨by decide, by decide⟩
      have h8 := fun u => specGet32_c s 8 u hs ⟨by decide, by decide⟩
      have h14 := fun u => specGet16_c s 14 u hs ⟨by decide, by decide⟩
      have z13 : (13 : Nat) < s.size := by omega
      have x13 := idxi (i := 13) (k := 13) rfl z13
      obtain ⟨y0, y1⟩ := byt_bd s 13
      have ew : IntKind.i64.wrap (byt s 13) = byt s 13 := IntWalk.i64_in _ ⟨by omega, by omega⟩
      have d1 : sqR 6 s = g32 s 4 := if_pos rfl
      have d2 : akR 6 s = g32 s 8 := if_pos rfl
      have d3 : flR 6 s = byt s 13 := if_pos rfl
      have d4 : wnR 6 s = g16 s 14 := if_pos rfl
      have d5 : bdR 6 s = s.extract 20 s.size := if_pos rfl
      obtain ⟨a2, ha2⟩ : ∃ a, g32 s 4 = a := ⟨_, rfl⟩
      obtain ⟨a3, ha3⟩ : ∃ a, g32 s 8 = a := ⟨_, rfl⟩
      obtain ⟨a4, ha4⟩ : ∃ a, g16 s 14 = a := ⟨_, rfl⟩
      simp only [ha2] at h4 d1
      simp only [ha3] at h8 d2
      simp only [ha4] at h14 d4
      clear ha2 ha3 ha4
      have ln : (20 : Int) ≤ (s.size : Int) := by omega
      have hBs : (s.extract 20 s.size).size ≤ 1048576 := by rw [ByteArray.size_extract]; omega
      obtain ⟨B, hB⟩ : ∃ B, s.extract 20 s.size = B := ⟨_, rfl⟩
      rw [hB] at d5 hBs
      have hcond : (tcpB 6 s || udpB 6 s) = true := by simp [tcpB, udpB]; omega
      have hbs := fun u => specBuildSegment_c si di 6 a0 a1 a2 a3 (byt s 13) a4 B u hBs hsi hdi
      simp only [d1, d2, d3, d4, d5, g0, g1]
      cases hsg : segB 6 a0 a1 a2 a3 (byt s 13) a4 B
      · have hok0 : okR si di 6 s = false := by rw [okR, hcond, d1, d2, d3, d4, d5, g0, g1, hsg]; rfl
        rw [hok0]
        simp only [sgI_no hok0, sgT_no hok0]
        simp only [hsg, Bool.false_eq_true, if_false] at hbs
        clear hcond hsg hok0 d1 d2 d3 d4 d5 g0 g1
        go_enter Try.func125, Try.ntmps125
        go_wp2_with fail
        have k0 : Below w.heap.size w (w.alloc (.cells #[.int .i64 0, .int .i64 0, .int .i64 0, .int .i64 0, .int .i64 0, .int .i64 0, .int .i64 0, .string ⟨#[]⟩] 29)) := by go_grown
        have bl0 : w.heap.size < (w.alloc (.cells #[.int .i64 0, .int .i64 0, .int .i64 0, .int .i64 0, .int .i64 0, .int .i64 0, .int .i64 0, .string ⟨#[]⟩] 29)).heap.size := by go_size
        have hk0 : Blk (w.alloc (.cells #[.int .i64 0, .int .i64 0, .int .i64 0, .int .i64 0, .int .i64 0, .int .i64 0, .int .i64 0, .string ⟨#[]⟩] 29)) (w.heap.size) 29 [.int .i64 0, .int .i64 0, .int .i64 0, .int .i64 0, .int .i64 0, .int .i64 0, .int .i64 0, .string ⟨#[]⟩] := by simpa using Blk.new w 29 [.int .i64 0, .int .i64 0, .int .i64 0, .int .i64 0, .int .i64 0, .int .i64 0, .int .i64 0, .string ⟨#[]⟩]
        have p0 := k0.size
        generalize hW0 : (w.alloc (.cells #[.int .i64 0, .int .i64 0, .int .i64 0, .int .i64 0, .int .i64 0, .int .i64 0, .int .i64 0, .string ⟨#[]⟩] 29)) = w0 at *
        clear hW0
        refine (ha _).mono ?_
        rintro e w1 ⟨rfl, hb⟩
        have k1 : Below w.heap.size w w1 := ext_step k0 (by omega) hb
        have p1 := hb.size
        replace hk0 := hk0.ext hb
        have bl0 := Nat.lt_of_lt_of_le bl0 hb.size
        clear hb
        go_wp2_with fail
        refine (hc2 _).mono ?_
        rintro e w2 ⟨rfl, hb⟩
        have k2 : Below w.heap.size w w2 := ext_step k1 (by omega) hb
        have p2 := hb.size
        replace hk0 := hk0.ext hb
        have bl0 := Nat.lt_of_lt_of_le bl0 hb.size
        clear hb
        go_wp2_with fail
        obtain ⟨w3, hW0⟩ : ∃ W, W = (w2.alloc (.cells #[.int .i64 6, .int .i64 a0, .int .i64 a1, .int .i64 0, .int .i64 0, .int .i64 0, .int .i64 0, .string ⟨#[]⟩] 29)) := ⟨_, rfl⟩
        have hb : Below w2.heap.size w2 w3 := by rw [hW0]; go_grown
        have bl1 : w2.heap.size < w3.heap.size := by rw [hW0]; go_size
        have hk1 : Blk w3 (w2.heap.size) 29 [.int .i64 6, .int .i64 a0, .int .i64 a1, .int .i64 0, .int .i64 0, .int .i64 0, .int .i64 0, .string ⟨#[]⟩] := by rw [hW0]; exact Blk.new _ _ _
        rw [← hW0]
        clear hW0
        have k3 := ext_step k2 (by omega) hb
        have p3 := hb.size
        replace hk0 := hk0.ext hb
        have bl0 := Nat.lt_of_lt_of_le bl0 hb.size
        clear hb
        refine (h4 _).mono ?_
        rintro e w4 ⟨rfl, hb⟩
        have k4 : Below w.heap.size w w4 := ext_step k3 (by omega) hb
        have p4 := hb.size
        replace hk0 := hk0.ext hb
        replace hk1 := hk1.ext hb
        have bl0 := Nat.lt_of_lt_of_le bl0 hb.size
        have bl1 := Nat.lt_of_lt_of_le bl1 hb.size
        clear hb
        have bx1_3 := hk1.at_ 3 _ rfl
        have fz1_3 := hk1.frozen 3
        go_wp2_with fail
        have hc : ChgA (w2.heap.size) w4 (w4.setCell ⟨w2.heap.size, 3, none⟩ (.int .i64 a2)) := (ChgA.refl _ _).set _ _
        have hko := hk1
        replace hk0 := hk0.chgA hc (by omega)
        replace hk1 : Blk (w4.setCell ⟨w2.heap.size, 3, none⟩ (.int .i64 a2)) (w2.heap.size) 29 [.int .i64 6, .int .i64 a0, .int .i64 a1, .int .i64 a2, .int .i64 0, .int .i64 0, .int .i64 0, .string ⟨#[]⟩] := hk1.set_ 3 _
        have k5 : Below w.heap.size w (w4.setCell ⟨w2.heap.size, 3, none⟩ (.int .i64 a2)) := hc.below (by omega) k4
        have p5 : (w4.setCell ⟨w2.heap.size, 3, none⟩ (.int .i64 a2)).heap.size = w4.heap.size := hc.size
        have bl0 := Nat.lt_of_lt_of_le bl0 (Nat.le_of_eq p5.symm)
        have bl1 := Nat.lt_of_lt_of_le bl1 (Nat.le_of_eq p5.symm)
        generalize hW0 : (w4.setCell ⟨w2.heap.size, 3, none⟩ (.int .i64 a2)) = w5 at *
        clear hW0 hc hko
        clear bx1_3 fz1_3
        refine (h8 _).mono ?_
        rintro e w6 ⟨rfl, hb⟩
        have k6 : Below w.heap.size w w6 := ext_step k5 (by omega) hb
        have p6 := hb.size
        replace hk0 := hk0.ext hb
        replace hk1 := hk1.ext hb
        have bl0 := Nat.lt_of_lt_of_le bl0 hb.size
        have bl1 := Nat.lt_of_lt_of_le bl1 hb.size
        clear hb
        have bx1_4 := hk1.at_ 4 _ rfl
        have fz1_4 := hk1.frozen 4
        have bx1_5 := hk1.at_ 5 _ rfl
        have fz1_5 := hk1.frozen 5
        go_wp2_with fail
        have hc : ChgA (w2.heap.size) w6 (w6.setCell ⟨w2.heap.size, 4, none⟩ (.int .i64 a3)) := (ChgA.refl _ _).set _ _
        have hko := hk1
        replace hk0 := hk0.chgA hc (by omega)
        replace hk1 : Blk (w6.setCell ⟨w2.heap.size, 4, none⟩ (.int .i64 a3)) (w2.heap.size) 29 [.int .i64 6, .int .i64 a0, .int .i64 a1, .int .i64 a2, .int .i64 a3, .int .i64 0, .int .i64 0, .string ⟨#[]⟩] := hk1.set_ 4 _
        have k7 : Below w.heap.size w (w6.setCell ⟨w2.heap.size, 4, none⟩ (.int .i64 a3)) := hc.below (by omega) k6
        have p7 : (w6.setCell ⟨w2.heap.size, 4, none⟩ (.int .i64 a3)).heap.size = w6.heap.size := hc.size
        have bl0 := Nat.lt_of_lt_of_le bl0 (Nat.le_of_eq p7.symm)
        have bl1 := Nat.lt_of_lt_of_le bl1 (Nat.le_of_eq p7.symm)
        generalize hW0 : (w6.setCell ⟨w2.heap.size, 4, none⟩ (.int .i64 a3)) = w7 at *
        clear hW0 hc hko
        clear bx1_4 fz1_4 bx1_5 fz1_5
        have hc : ChgA (w2.heap.size) w7 (w7.setCell ⟨w2.heap.size, 5, none⟩ (.int .i64 (byt s 13))) := (ChgA.refl _ _).set _ _
        have hko := hk1
        replace hk0 := hk0.chgA hc (by omega)
        replace hk1 : Blk (w7.setCell ⟨w2.heap.size, 5, none⟩ (.int .i64 (byt s 13))) (w2.heap.size) 29 [.int .i64 6, .int .i64 a0, .int .i64 a1, .int .i64 a2, .int .i64 a3, .int .i64 (byt s 13), .int .i64 0, .string ⟨#[]⟩] := hk1.set_ 5 _
        have k8 : Below w.heap.size w (w7.setCell ⟨w2.heap.size, 5, none⟩ (.int .i64 (byt s 13))) := hc.below (by omega) k7
        have p8 : (w7.setCell ⟨w2.heap.size, 5, none⟩ (.int .i64 (byt s 13))).heap.size = w7.heap.size := hc.size
        have bl0 := Nat.lt_of_lt_of_le bl0 (Nat.le_of_eq p8.symm)
        have bl1 := Nat.lt_of_lt_of_le bl1 (Nat.le_of_eq p8.symm)
        generalize hW0 : (w7.setCell ⟨w2.heap.size, 5, none⟩ (.int .i64 (byt s 13))) = w8 at *
        clear hW0 hc hko
        refine (h14 _).mono ?_
        rintro e w9 ⟨rfl, hb⟩
        have k9 : Below w.heap.size w w9 := ext_step k8 (by omega) hb
        have p9 := hb.size
        replace hk0 := hk0.ext hb
        replace hk1 := hk1.ext hb
        have bl0 := Nat.lt_of_lt_of_le bl0 hb.size
        have bl1 := Nat.lt_of_lt_of_le bl1 hb.size
        clear hb
        have bx1_0 := hk1.at_ 0 _ rfl
        have fz1_0 := hk1.frozen 0
        have bx1_1 := hk1.at_ 1 _ rfl
        have fz1_1 := hk1.frozen 1
        have bx1_2 := hk1.at_ 2 _ rfl
        have fz1_2 := hk1.frozen 2
        have bx1_3 := hk1.at_ 3 _ rfl
        have fz1_3 := hk1.frozen 3
        have bx1_4 := hk1.at_ 4 _ rfl
        have fz1_4 := hk1.frozen 4
        have bx1_5 := hk1.at_ 5 _ rfl
        have fz1_5 := hk1.frozen 5
        have bx1_6 := hk1.at_ 6 _ rfl
        have fz1_6 := hk1.frozen 6
        have bx1_7 := hk1.at_ 7 _ rfl
        have fz1_7 := hk1.frozen 7
        go_wp2_with fail
        have hc : ChgA (w2.heap.size) w9 (w9.setCell ⟨w2.heap.size, 6, none⟩ (.int .i64 a4)) := (ChgA.refl _ _).set _ _
        have hko := hk1
        replace hk0 := hk0.chgA hc (by omega)
        replace hk1 : Blk (w9.setCell ⟨w2.heap.size, 6, none⟩ (.int .i64 a4)) (w2.heap.size) 29 [.int .i64 6, .int .i64 a0, .int .i64 a1, .int .i64 a2, .int .i64 a3, .int .i64 (byt s 13), .int .i64 a4, .string ⟨#[]⟩] := hk1.set_ 6 _
        have k10 : Below w.heap.size w (w9.setCell ⟨w2.heap.size, 6, none⟩ (.int .i64 a4)) := hc.below (by omega) k9
        have p10 : (w9.setCell ⟨w2.heap.size, 6, none⟩ (.int .i64 a4)).heap.size = w9.heap.size := hc.size
        have bl0 := Nat.lt_of_lt_of_le bl0 (Nat.le_of_eq p10.symm)
        have bl1 := Nat.lt_of_lt_of_le bl1 (Nat.le_of_eq p10.symm)
        generalize hW0 : (w9.setCell ⟨w2.heap.size, 6, none⟩ (.int .i64 a4)) = w10 at *
        clear hW0 hc hko
        clear bx1_0 fz1_0 bx1_1 fz1_1 bx1_2 fz1_2 bx1_3 fz1_3 bx1_4 fz1_4 bx1_5 fz1_5 bx1_6 fz1_6 bx1_7 fz1_7
        have hc : ChgA (w2.heap.size) w10 (w10.setCell ⟨w2.heap.size, 7, none⟩ (.string B)) := (ChgA.refl _ _).set _ _
        have hko := hk1
        replace hk0 := hk0.chgA hc (by omega)
        replace hk1 : Blk (w10.setCell ⟨w2.heap.size, 7, none⟩ (.string B)) (w2.heap.size) 29 [.int .i64 6, .int .i64 a0, .int .i64 a1, .int .i64 a2, .int .i64 a3, .int .i64 (byt s 13), .int .i64 a4, .string B] := hk1.set_ 7 _
        have k11 : Below w.heap.size w (w10.setCell ⟨w2.heap.size, 7, none⟩ (.string B)) := hc.below (by omega) k10
        have p11 : (w10.setCell ⟨w2.heap.size, 7, none⟩ (.string B)).heap.size = w10.heap.size := hc.size
        have bl0 := Nat.lt_of_lt_of_le bl0 (Nat.le_of_eq p11.symm)
        have bl1 := Nat.lt_of_lt_of_le bl1 (Nat.le_of_eq p11.symm)
        generalize hW0 : (w10.setCell ⟨w2.heap.size, 7, none⟩ (.string B)) = w11 at *
        clear hW0 hc hko
        clear ew x13 h4 h8 h14
        refine (hbs _).mono ?_
        rintro e w12 ⟨rfl, hb⟩
        have k12 : Below w.heap.size w w12 := ext_step k11 (by omega) hb
        have p12 := hb.size
        replace hk0 := hk0.ext hb
        replace hk1 := hk1.ext hb
        have bl0 := Nat.lt_of_lt_of_le bl0 hb.size
        have bl1 := Nat.lt_of_lt_of_le bl1 hb.size
        clear hb
        clear  hk1
        have bx0_0 := hk0.at_ 0 _ rfl
        have fz0_0 := hk0.frozen 0
        have bx0_1 := hk0.at_ 1 _ rfl
        have fz0_1 := hk0.frozen 1
        have bx0_2 := hk0.at_ 2 _ rfl
        have fz0_2 := hk0.frozen 2
        have bx0_3 := hk0.at_ 3 _ rfl
        have fz0_3 := hk0.frozen 3
        have bx0_4 := hk0.at_ 4 _ rfl
        have fz0_4 := hk0.frozen 4
        have bx0_5 := hk0.at_ 5 _ rfl
        have fz0_5 := hk0.frozen 5
        have bx0_6 := hk0.at_ 6 _ rfl
        have fz0_6 := hk0.frozen 6
        have bx0_7 := hk0.at_ 7 _ rfl
        have fz0_7 := hk0.frozen 7
        go_wp2_with fail
        have hcc := ChgA.refl (w.heap.size) w12
        obtain ⟨w13_0, hW0⟩ : ∃ W, W = w12.setCell ⟨w.heap.size, 0, none⟩ (.int .i64 0) := ⟨_, rfl⟩
        replace hcc : ChgA (w.heap.size) w12 w13_0 := by rw [hW0]; exact hcc.set _ _
        replace hk0 : Blk w13_0 (w.heap.size) 29 [.int .i64 0, .int .i64 0, .int .i64 0, .int .i64 0, .int .i64 0, .int .i64 0, .int .i64 0, .string ⟨#[]⟩] := by rw [hW0]; exact hk0.set_ 0 _
        rw [← hW0]
        clear hW0
        obtain ⟨w13_1, hW0⟩ : ∃ W, W = w13_0.setCell ⟨w.heap.size, 1, none⟩ (.int .i64 0) := ⟨_, rfl⟩
        replace hcc : ChgA (w.heap.size) w12 w13_1 := by rw [hW0]; exact hcc.set _ _
        replace hk0 : Blk w13_1 (w.heap.size) 29 [.int .i64 0, .int .i64 0, .int .i64 0, .int .i64 0, .int .i64 0, .int .i64 0, .int .i64 0, .string ⟨#[]⟩] := by rw [hW0]; exact hk0.set_ 1 _
        rw [← hW0]
        clear hW0
        obtain ⟨w13_2, hW0⟩ : ∃ W, W = w13_1.setCell ⟨w.heap.size, 2, none⟩ (.int .i64 0) := ⟨_, rfl⟩
        replace hcc : ChgA (w.heap.size) w12 w13_2 := by rw [hW0]; exact hcc.set _ _
        replace hk0 : Blk w13_2 (w.heap.size) 29 [.int .i64 0, .int .i64 0, .int .i64 0, .int .i64 0, .int .i64 0, .int .i64 0, .int .i64 0, .string ⟨#[]⟩] := by rw [hW0]; exact hk0.set_ 2 _
        rw [← hW0]
        clear hW0
        obtain ⟨w13_3, hW0⟩ : ∃ W, W = w13_2.setCell ⟨w.heap.size, 3, none⟩ (.int .i64 0) := ⟨_, rfl⟩
        replace hcc : ChgA (w.heap.size) w12 w13_3 := by rw [hW0]; exact hcc.set _ _
        replace hk0 : Blk w13_3 (w.heap.size) 29 [.int .i64 0, .int .i64 0, .int .i64 0, .int .i64 0, .int .i64 0, .int .i64 0, .int .i64 0, .string ⟨#[]⟩] := by rw [hW0]; exact hk0.set_ 3 _
        rw [← hW0]
        clear hW0
        obtain ⟨w13_4, hW0⟩ : ∃ W, W = w13_3.setCell ⟨w.heap.size, 4, none⟩ (.int .i64 0) := ⟨_, rfl⟩
        replace hcc : ChgA (w.heap.size) w12 w13_4 := by rw [hW0]; exact hcc.set _ _
        replace hk0 : Blk w13_4 (w.heap.size) 29 [.int .i64 0, .int .i64 0, .int .i64 0, .int .i64 0, .int .i64 0, .int .i64 0, .int .i64 0, .string ⟨#[]⟩] := by rw [hW0]; exact hk0.set_ 4 _
        rw [← hW0]
        clear hW0
        obtain ⟨w13_5, hW0⟩ : ∃ W, W = w13_4.setCell ⟨w.heap.size, 5, none⟩ (.int .i64 0) := ⟨_, rfl⟩
        replace hcc : ChgA (w.heap.size) w12 w13_5 := by rw [hW0]; exact hcc.set _ _
        replace hk0 : Blk w13_5 (w.heap.size) 29 [.int .i64 0, .int .i64 0, .int .i64 0, .int .i64 0, .int .i64 0, .int .i64 0, .int .i64 0, .string ⟨#[]⟩] := by rw [hW0]; exact hk0.set_ 5 _
        rw [← hW0]
        clear hW0
        obtain ⟨w13_6, hW0⟩ : ∃ W, W = w13_5.setCell ⟨w.heap.size, 6, none⟩ (.int .i64 0) := ⟨_, rfl⟩
        replace hcc : ChgA (w.heap.size) w12 w13_6 := by rw [hW0]; exact hcc.set _ _
        replace hk0 : Blk w13_6 (w.heap.size) 29 [.int .i64 0, .int .i64 0, .int .i64 0, .int .i64 0, .int .i64 0, .int .i64 0, .int .i64 0, .string ⟨#[]⟩] := by rw [hW0]; exact hk0.set_ 6 _
        rw [← hW0]
        clear hW0
        obtain ⟨w13, hW0⟩ : ∃ W, W = w13_6.setCell ⟨w.heap.size, 7, none⟩ (.string ⟨#[]⟩) := ⟨_, rfl⟩
        replace hcc : ChgA (w.heap.size) w12 w13 := by rw [hW0]; exact hcc.set _ _
        replace hk0 : Blk w13 (w.heap.size) 29 [.int .i64 0, .int .i64 0, .int .i64 0, .int .i64 0, .int .i64 0, .int .i64 0, .int .i64 0, .string ⟨#[]⟩] := by rw [hW0]; exact hk0.set_ 7 _
        rw [← hW0]
        clear hW0
        have hc := hcc
        have k13 := hc.below (by omega) k12
        have p13 := hc.size
        replace bl0 := Nat.lt_of_lt_of_le bl0 (Nat.le_of_eq p13.symm)
        replace bl1 := Nat.lt_of_lt_of_le bl1 (Nat.le_of_eq p13.symm)
        clear hc hcc
        clear bx0_0 fz0_0 bx0_1 fz0_1 bx0_2 fz0_2 bx0_3 fz0_3 bx0_4 fz0_4 bx0_5 fz0_5 bx0_6 fz0_6 bx0_7 fz0_7
        have bx0_0 := hk0.at_ 0 _ rfl
        have bx0_1 := hk0.at_ 1 _ rfl
        have bx0_2 := hk0.at_ 2 _ rfl
        have bx0_3 := hk0.at_ 3 _ rfl
        have bx0_4 := hk0.at_ 4 _ rfl
        have bx0_5 := hk0.at_ 5 _ rfl
        have bx0_6 := hk0.at_ 6 _ rfl
        have bx0_7 := hk0.at_ 7 _ rfl
        refine bodyPost_ret (v := .tuple #[.agg #[.int .i64 0, .int .i64 0, .int .i64 0, .int .i64 0, .int .i64 0, .int .i64 0, .int .i64 0, .string ⟨#[]⟩], .bool false]) (by simp [results, Try.results125, go_sem, bx0_0, bx0_1, bx0_2, bx0_3, bx0_4, bx0_5, bx0_6, bx0_7]) rfl ?_
        exact ⟨rfl, k13⟩
      · simp only [hsg, if_true] at hbs
        obtain ⟨P, hP⟩ : ∃ P, segS si di 6 a0 a1 a2 a3 (byt s 13) a4 B = P := ⟨_, rfl⟩
        simp only [hP] at hbs
        cases hc : P.toList == s.toList
        · have hok0 : okR si di 6 s = false := by rw [okR, hcond, d1, d2, d3, d4, d5, g0, g1, hsg, hP, hc]; rfl
          rw [hok0]
          simp only [sgI_no hok0, sgT_no hok0]
          clear hcond hsg hok0 hP d1 d2 d3 d4 d5 g0 g1
          go_enter Try.func125, Try.ntmps125
          go_wp2_with fail
          have k0 : Below w.heap.size w (w.alloc (.cells #[.int .i64 0, .int .i64 0, .int .i64 0, .int .i64 0, .int .i64 0, .int .i64 0, .int .i64 0, .string ⟨#[]⟩] 29)) := by go_grown
          have bl0 : w.heap.size < (w.alloc (.cells #[.int .i64 0, .int .i64 0, .int .i64 0, .int .i64 0, .int .i64 0, .int .i64 0, .int .i64 0, .string ⟨#[]⟩] 29)).heap.size := by go_size
          have hk0 : Blk (w.alloc (.cells #[.int .i64 0, .int .i64 0, .int .i64 0, .int .i64 0, .int .i64 0, .int .i64 0, .int .i64 0, .string ⟨#[]⟩] 29)) (w.heap.size) 29 [.int .i64 0, .int .i64 0, .int .i64 0, .int .i64 0, .int .i64 0, .int .i64 0, .int .i64 0, .string ⟨#[]⟩] := by simpa using Blk.new w 29 [.int .i64 0, .int .i64 0, .int .i64 0, .int .i64 0, .int .i64 0, .int .i64 0, .int .i64 0, .string ⟨#[]⟩]
          have p0 := k0.size
          generalize hW0 : (w.alloc (.cells #[.int .i64 0, .int .i64 0, .int .i64 0, .int .i64 0, .int .i64 0, .int .i64 0, .int .i64 0, .string ⟨#[]⟩] 29)) = w0 at *
          clear hW0
          refine (ha _).mono ?_
          rintro e w1 ⟨rfl, hb⟩
          have k1 : Below w.heap.size w w1 := ext_step k0 (by omega) hb
          have p1 := hb.size
          replace hk0 := hk0.ext hb
          have bl0 := Nat.lt_of_lt_of_le bl0 hb.size
          clear hb
          go_wp2_with fail
          refine (hc2 _).mono ?_
          rintro e w2 ⟨rfl, hb⟩
          have k2 : Below w.heap.size w w2 := ext_step k1 (by omega) hb
          have p2 := hb.size
          replace hk0 := hk0.ext hb
          have bl0 := Nat.lt_of_lt_of_le bl0 hb.size
          clear hb
          go_wp2_with fail
          obtain ⟨w3, hW0⟩ : ∃ W, W = (w2.alloc (.cells #[.int .i64 6, .int .i64 a0, .int .i64 a1, .int .i64 0, .int .i64 0, .int .i64 0, .int .i64 0, .string ⟨#[]⟩] 29)) := ⟨_, rfl⟩
          have hb : Below w2.heap.size w2 w3 := by rw [hW0]; go_grown
          have bl1 : w2.heap.size < w3.heap.size := by rw [hW0]; go_size
          have hk1 : Blk w3 (w2.heap.size) 29 [.int .i64 6, .int .i64 a0, .int .i64 a1, .int .i64 0, .int .i64 0, .int .i64 0, .int .i64 0, .string ⟨#[]⟩] := by rw [hW0]; exact Blk.new _ _ _
          rw [← hW0]
          clear hW0
          have k3 := ext_step k2 (by omega) hb
          have p3 := hb.size
          replace hk0 := hk0.ext hb
          have bl0 := Nat.lt_of_lt_of_le bl0 hb.size
          clear hb
          refine (h4 _).mono ?_
          rintro e w4 ⟨rfl, hb⟩
          have k4 : Below w.heap.size w w4 := ext_step k3 (by omega) hb
          have p4 := hb.size
          replace hk0 := hk0.ext hb
          replace hk1 := hk1.ext hb
          have bl0 := Nat.lt_of_lt_of_le bl0 hb.size
          have bl1 := Nat.lt_of_lt_of_le bl1 hb.size
          clear hb
          have bx1_3 := hk1.at_ 3 _ rfl
          have fz1_3 := hk1.frozen 3
          go_wp2_with fail
          have hc : ChgA (w2.heap.size) w4 (w4.setCell ⟨w2.heap.size, 3, none⟩ (.int .i64 a2)) := (ChgA.refl _ _).set _ _
          have hko := hk1
          replace hk0 := hk0.chgA hc (by omega)
          replace hk1 : Blk (w4.setCell ⟨w2.heap.size, 3, none⟩ (.int .i64 a2)) (w2.heap.size) 29 [.int .i64 6, .int .i64 a0, .int .i64 a1, .int .i64 a2, .int .i64 0, .int .i64 0, .int .i64 0, .string ⟨#[]⟩] := hk1.set_ 3 _
          have k5 : Below w.heap.size w (w4.setCell ⟨w2.heap.size, 3, none⟩ (.int .i64 a2)) := hc.below (by omega) k4
          have p5 : (w4.setCell ⟨w2.heap.size, 3, none⟩ (.int .i64 a2)).heap.size = w4.heap.size := hc.size
          have bl0 := Nat.lt_of_lt_of_le bl0 (Nat.le_of_eq p5.symm)
          have bl1 := Nat.lt_of_lt_of_le bl1 (Nat.le_of_eq p5.symm)
          generalize hW0 : (w4.setCell ⟨w2.heap.size, 3, none⟩ (.int .i64 a2)) = w5 at *
          clear hW0 hc hko
          clear bx1_3 fz1_3
          refine (h8 _).mono ?_
          rintro e w6 ⟨rfl, hb⟩
          have k6 : Below w.heap.size w w6 := ext_step k5 (by omega) hb
          have p6 := hb.size
          replace hk0 := hk0.ext hb
          replace hk1 := hk1.ext hb
          have bl0 := Nat.lt_of_lt_of_le bl0 hb.size
          have bl1 := Nat.lt_of_lt_of_le bl1 hb.size
          clear hb
          have bx1_4 := hk1.at_ 4 _ rfl
          have fz1_4 := hk1.frozen 4
          have bx1_5 := hk1.at_ 5 _ rfl
          have fz1_5 := hk1.frozen 5
          go_wp2_with fail
          have hc : ChgA (w2.heap.size) w6 (w6.setCell ⟨w2.heap.size, 4, none⟩ (.int .i64 a3)) := (ChgA.refl _ _).set _ _
          have hko := hk1
          replace hk0 := hk0.chgA hc (by omega)
          replace hk1 : Blk (w6.setCell ⟨w2.heap.size, 4, none⟩ (.int .i64 a3)) (w2.heap.size) 29 [.int .i64 6, .int .i64 a0, .int .i64 a1, .int .i64 a2, .int .i64 a3, .int .i64 0, .int .i64 0, .string ⟨#[]⟩] := hk1.set_ 4 _
          have k7 : Below w.heap.size w (w6.setCell ⟨w2.heap.size, 4, none⟩ (.int .i64 a3)) := hc.below (by omega) k6
          have p7 : (w6.setCell ⟨w2.heap.size, 4, none⟩ (.int .i64 a3)).heap.size = w6.heap.size := hc.size
          have bl0 := Nat.lt_of_lt_of_le bl0 (Nat.le_of_eq p7.symm)
          have bl1 := Nat.lt_of_lt_of_le bl1 (Nat.le_of_eq p7.symm)
          generalize hW0 : (w6.setCell ⟨w2.heap.size, 4, none⟩ (.int .i64 a3)) = w7 at *
          clear hW0 hc hko
          clear bx1_4 fz1_4 bx1_5 fz1_5
          have hc : ChgA (w2.heap.size) w7 (w7.setCell ⟨w2.heap.size, 5, none⟩ (.int .i64 (byt s 13))) := (ChgA.refl _ _).set _ _
          have hko := hk1
          replace hk0 := hk0.chgA hc (by omega)
          replace hk1 : Blk (w7.setCell ⟨w2.heap.size, 5, none⟩ (.int .i64 (byt s 13))) (w2.heap.size) 29 [.int .i64 6, .int .i64 a0, .int .i64 a1, .int .i64 a2, .int .i64 a3, .int .i64 (byt s 13), .int .i64 0, .string ⟨#[]⟩] := hk1.set_ 5 _
          have k8 : Below w.heap.size w (w7.setCell ⟨w2.heap.size, 5, none⟩ (.int .i64 (byt s 13))) := hc.below (by omega) k7
          have p8 : (w7.setCell ⟨w2.heap.size, 5, none⟩ (.int .i64 (byt s 13))).heap.size = w7.heap.size := hc.size
          have bl0 := Nat.lt_of_lt_of_le bl0 (Nat.le_of_eq p8.symm)
          have bl1 := Nat.lt_of_lt_of_le bl1 (Nat.le_of_eq p8.symm)
          generalize hW0 : (w7.setCell ⟨w2.heap.size, 5, none⟩ (.int .i64 (byt s 13))) = w8 at *
          clear hW0 hc hko
          refine (h14 _).mono ?_
          rintro e w9 ⟨rfl, hb⟩
          have k9 : Below w.heap.size w w9 := ext_step k8 (by omega) hb
          have p9 := hb.size
          replace hk0 := hk0.ext hb
          replace hk1 := hk1.ext hb
          have bl0 := Nat.lt_of_lt_of_le bl0 hb.size
          have bl1 := Nat.lt_of_lt_of_le bl1 hb.size
          clear hb
          have bx1_0 := hk1.at_ 0 _ rfl
          have fz1_0 := hk1.frozen 0
          have bx1_1 := hk1.at_ 1 _ rfl
          have fz1_1 := hk1.frozen 1
          have bx1_2 := hk1.at_ 2 _ rfl
          have fz1_2 := hk1.frozen 2
          have bx1_3 := hk1.at_ 3 _ rfl
          have fz1_3 := hk1.frozen 3
          have bx1_4 := hk1.at_ 4 _ rfl
          have fz1_4 := hk1.frozen 4
          have bx1_5 := hk1.at_ 5 _ rfl
          have fz1_5 := hk1.frozen 5
          have bx1_6 := hk1.at_ 6 _ rfl
          have fz1_6 := hk1.frozen 6
          have bx1_7 := hk1.at_ 7 _ rfl
          have fz1_7 := hk1.frozen 7
          go_wp2_with fail
          have hc : ChgA (w2.heap.size) w9 (w9.setCell ⟨w2.heap.size, 6, none⟩ (.int .i64 a4)) := (ChgA.refl _ _).set _ _
          have hko := hk1
          replace hk0 := hk0.chgA hc (by omega)
          replace hk1 : Blk (w9.setCell ⟨w2.heap.size, 6, none⟩ (.int .i64 a4)) (w2.heap.size) 29 [.int .i64 6, .int .i64 a0, .int .i64 a1, .int .i64 a2, .int .i64 a3, .int .i64 (byt s 13), .int .i64 a4, .string ⟨#[]⟩] := hk1.set_ 6 _
          have k10 : Below w.heap.size w (w9.setCell ⟨w2.heap.size, 6, none⟩ (.int .i64 a4)) := hc.below (by omega) k9
          have p10 : (w9.setCell ⟨w2.heap.size, 6, none⟩ (.int .i64 a4)).heap.size = w9.heap.size := hc.size
          have bl0 := Nat.lt_of_lt_of_le bl0 (Nat.le_of_eq p10.symm)
          have bl1 := Nat.lt_of_lt_of_le bl1 (Nat.le_of_eq p10.symm)
          generalize hW0 : (w9.setCell ⟨w2.heap.size, 6, none⟩ (.int .i64 a4)) = w10 at *
          clear hW0 hc hko
          clear bx1_0 fz1_0 bx1_1 fz1_1 bx1_2 fz1_2 bx1_3 fz1_3 bx1_4 fz1_4 bx1_5 fz1_5 bx1_6 fz1_6 bx1_7 fz1_7
          have hc : ChgA (w2.heap.size) w10 (w10.setCell ⟨w2.heap.size, 7, none⟩ (.string B)) := (ChgA.refl _ _).set _ _
          have hko := hk1
          replace hk0 := hk0.chgA hc (by omega)
          replace hk1 : Blk (w10.setCell ⟨w2.heap.size, 7, none⟩ (.string B)) (w2.heap.size) 29 [.int .i64 6, .int .i64 a0, .int .i64 a1, .int .i64 a2, .int .i64 a3, .int .i64 (byt s 13), .int .i64 a4, .string B] := hk1.set_ 7 _
          have k11 : Below w.heap.size w (w10.setCell ⟨w2.heap.size, 7, none⟩ (.string B)) := hc.below (by omega) k10
          have p11 : (w10.setCell ⟨w2.heap.size, 7, none⟩ (.string B)).heap.size = w10.heap.size := hc.size
          have bl0 := Nat.lt_of_lt_of_le bl0 (Nat.le_of_eq p11.symm)
          have bl1 := Nat.lt_of_lt_of_le bl1 (Nat.le_of_eq p11.symm)
          generalize hW0 : (w10.setCell ⟨w2.heap.size, 7, none⟩ (.string B)) = w11 at *
          clear hW0 hc hko
          clear ew x13 h4 h8 h14
          refine (hbs _).mono ?_
          rintro e w12 ⟨rfl, hb⟩
          have k12 : Below w.heap.size w w12 := ext_step k11 (by omega) hb
          have p12 := hb.size
          replace hk0 := hk0.ext hb
          replace hk1 := hk1.ext hb
          have bl0 := Nat.lt_of_lt_of_le bl0 hb.size
          have bl1 := Nat.lt_of_lt_of_le bl1 hb.size
          clear hb
          clear  hk1
          have bx0_0 := hk0.at_ 0 _ rfl
          have fz0_0 := hk0.frozen 0
          have bx0_1 := hk0.at_ 1 _ rfl
          have fz0_1 := hk0.frozen 1
          have bx0_2 := hk0.at_ 2 _ rfl
          have fz0_2 := hk0.frozen 2
          have bx0_3 := hk0.at_ 3 _ rfl
          have fz0_3 := hk0.frozen 3
          have bx0_4 := hk0.at_ 4 _ rfl
          have fz0_4 := hk0.frozen 4
          have bx0_5 := hk0.at_ 5 _ rfl
          have fz0_5 := hk0.frozen 5
          have bx0_6 := hk0.at_ 6 _ rfl
          have fz0_6 := hk0.frozen 6
          have bx0_7 := hk0.at_ 7 _ rfl
          have fz0_7 := hk0.frozen 7
          go_wp2_with fail
          have hcc := ChgA.refl (w.heap.size) w12
          obtain ⟨w13_0, hW0⟩ : ∃ W, W = w12.setCell ⟨w.heap.size, 0, none⟩ (.int .i64 0) := ⟨_, rfl⟩
          replace hcc : ChgA (w.heap.size) w12 w13_0 := by rw [hW0]; exact hcc.set _ _
          replace hk0 : Blk w13_0 (w.heap.size) 29 [.int .i64 0, .int .i64 0, .int .i64 0, .int .i64 0, .int .i64 0, .int .i64 0, .int .i64 0, .string ⟨#[]⟩] := by rw [hW0]; exact hk0.set_ 0 _
          rw [← hW0]
          clear hW0
          obtain ⟨w13_1, hW0⟩ : ∃ W, W = w13_0.setCell ⟨w.heap.size, 1, none⟩ (.int .i64 0) := ⟨_, rfl⟩
          replace hcc : ChgA (w.heap.size) w12 w13_1 := by rw [hW0]; exact hcc.set _ _
          replace hk0 : Blk w13_1 (w.heap.size) 29 [.int .i64 0, .int .i64 0, .int .i64 0, .int .i64 0, .int .i64 0, .int .i64 0, .int .i64 0, .string ⟨#[]⟩] := by rw [hW0]; exact hk0.set_ 1 _
          rw [← hW0]
          clear hW0
          obtain ⟨w13_2, hW0⟩ : ∃ W, W = w13_1.setCell ⟨w.heap.size, 2, none⟩ (.int .i64 0) := ⟨_, rfl⟩
          replace hcc : ChgA (w.heap.size) w12 w13_2 := by rw [hW0]; exact hcc.set _ _
          replace hk0 : Blk w13_2 (w.heap.size) 29 [.int .i64 0, .int .i64 0, .int .i64 0, .int .i64 0, .int .i64 0, .int .i64 0, .int .i64 0, .string ⟨#[]⟩] := by rw [hW0]; exact hk0.set_ 2 _
          rw [← hW0]
          clear hW0
          obtain ⟨w13_3, hW0⟩ : ∃ W, W = w13_2.setCell ⟨w.heap.size, 3, none⟩ (.int .i64 0) := ⟨_, rfl⟩
          replace hcc : ChgA (w.heap.size) w12 w13_3 := by rw [hW0]; exact hcc.set _ _
          replace hk0 : Blk w13_3 (w.heap.size) 29 [.int .i64 0, .int .i64 0, .int .i64 0, .int .i64 0, .int .i64 0, .int .i64 0, .int .i64 0, .string ⟨#[]⟩] := by rw [hW0]; exact hk0.set_ 3 _
          rw [← hW0]
          clear hW0
          obtain ⟨w13_4, hW0⟩ : ∃ W, W = w13_3.setCell ⟨w.heap.size, 4, none⟩ (.int .i64 0) := ⟨_, rfl⟩
          replace hcc : ChgA (w.heap.size) w12 w13_4 := by rw [hW0]; exact hcc.set _ _
          replace hk0 : Blk w13_4 (w.heap.size) 29 [.int .i64 0, .int .i64 0, .int .i64 0, .int .i64 0, .int .i64 0, .int .i64 0, .int .i64 0, .string ⟨#[]⟩] := by rw [hW0]; exact hk0.set_ 4 _
          rw [← hW0]
          clear hW0
          obtain ⟨w13_5, hW0⟩ : ∃ W, W = w13_4.setCell ⟨w.heap.size, 5, none⟩ (.int .i64 0) := ⟨_, rfl⟩
          replace hcc : ChgA (w.heap.size) w12 w13_5 := by rw [hW0]; exact hcc.set _ _
          replace hk0 : Blk w13_5 (w.heap.size) 29 [.int .i64 0, .int .i64 0, .int .i64 0, .int .i64 0, .int .i64 0, .int .i64 0, .int .i64 0, .string ⟨#[]⟩] := by rw [hW0]; exact hk0.set_ 5 _
          rw [← hW0]
          clear hW0
          obtain ⟨w13_6, hW0⟩ : ∃ W, W = w13_5.setCell ⟨w.heap.size, 6, none⟩ (.int .i64 0) := ⟨_, rfl⟩
          replace hcc : ChgA (w.heap.size) w12 w13_6 := by rw [hW0]; exact hcc.set _ _
          replace hk0 : Blk w13_6 (w.heap.size) 29 [.int .i64 0, .int .i64 0, .int .i64 0, .int .i64 0, .int .i64 0, .int .i64 0, .int .i64 0, .string ⟨#[]⟩] := by rw [hW0]; exact hk0.set_ 6 _
          rw [← hW0]
          clear hW0
          obtain ⟨w13, hW0⟩ : ∃ W, W = w13_6.setCell ⟨w.heap.size, 7, none⟩ (.string ⟨#[]⟩) := ⟨_, rfl⟩
          replace hcc : ChgA (w.heap.size) w12 w13 := by rw [hW0]; exact hcc.set _ _
          replace hk0 : Blk w13 (w.heap.size) 29 [.int .i64 0, .int .i64 0, .int .i64 0, .int .i64 0, .int .i64 0, .int .i64 0, .int .i64 0, .string ⟨#[]⟩] := by rw [hW0]; exact hk0.set_ 7 _
          rw [← hW0]
          clear hW0
          have hc := hcc
          have k13 := hc.below (by omega) k12
          have p13 := hc.size
          replace bl0 := Nat.lt_of_lt_of_le bl0 (Nat.le_of_eq p13.symm)
          replace bl1 := Nat.lt_of_lt_of_le bl1 (Nat.le_of_eq p13.symm)
          clear hc hcc
          clear bx0_0 fz0_0 bx0_1 fz0_1 bx0_2 fz0_2 bx0_3 fz0_3 bx0_4 fz0_4 bx0_5 fz0_5 bx0_6 fz0_6 bx0_7 fz0_7
          have bx0_0 := hk0.at_ 0 _ rfl
          have bx0_1 := hk0.at_ 1 _ rfl
          have bx0_2 := hk0.at_ 2 _ rfl
          have bx0_3 := hk0.at_ 3 _ rfl
          have bx0_4 := hk0.at_ 4 _ rfl
          have bx0_5 := hk0.at_ 5 _ rfl
          have bx0_6 := hk0.at_ 6 _ rfl
          have bx0_7 := hk0.at_ 7 _ rfl
          refine bodyPost_ret (v := .tuple #[.agg #[.int .i64 0, .int .i64 0, .int .i64 0, .int .i64 0, .int .i64 0, .int .i64 0, .int .i64 0, .string ⟨#[]⟩], .bool false]) (by simp [results, Try.results125, go_sem, bx0_0, bx0_1, bx0_2, bx0_3, bx0_4, bx0_5, bx0_6, bx0_7]) rfl ?_
          exact ⟨rfl, k13⟩
        · have hok0 : okR si di 6 s = true := by rw [okR, hcond, d1, d2, d3, d4, d5, g0, g1, hsg, hP, hc]; rfl
          rw [hok0]
          simp only [sgI_yes hok0, sgT_yes hok0]
          clear hcond hsg hok0 hP d1 d2 d3 d4 d5 g0 g1
          go_enter Try.func125, Try.ntmps125
          go_wp2_with fail
          have k0 : Below w.heap.size w (w.alloc (.cells #[.int .i64 0, .int .i64 0, .int .i64 0, .int .i64 0, .int .i64 0, .int .i64 0, .int .i64 0, .string ⟨#[]⟩] 29)) := by go_grown
          have bl0 : w.heap.size < (w.alloc (.cells #[.int .i64 0, .int .i64 0, .int .i64 0, .int .i64 0, .int .i64 0, .int .i64 0, .int .i64 0, .string ⟨#[]⟩] 29)).heap.size := by go_size
          have hk0 : Blk (w.alloc (.cells #[.int .i64 0, .int .i64 0, .int .i64 0, .int .i64 0, .int .i64 0, .int .i64 0, .int .i64 0, .string ⟨#[]⟩] 29)) (w.heap.size) 29 [.int .i64 0, .int .i64 0, .int .i64 0, .int .i64 0, .int .i64 0, .int .i64 0, .int .i64 0, .string ⟨#[]⟩] := by simpa using Blk.new w 29 [.int .i64 0, .int .i64 0, .int .i64 0, .int .i64 0, .int .i64 0, .int .i64 0, .int .i64 0, .string ⟨#[]⟩]
          have p0 := k0.size
          generalize hW0 : (w.alloc (.cells #[.int .i64 0, .int .i64 0, .int .i64 0, .int .i64 0, .int .i64 0, .int .i64 0, .int .i64 0, .string ⟨#[]⟩] 29)) = w0 at *
          clear hW0
          refine (ha _).mono ?_
          rintro e w1 ⟨rfl, hb⟩
          have k1 : Below w.heap.size w w1 := ext_step k0 (by omega) hb
          have p1 := hb.size
          replace hk0 := hk0.ext hb
          have bl0 := Nat.lt_of_lt_of_le bl0 hb.size
          clear hb
          go_wp2_with fail
          refine (hc2 _).mono ?_
          rintro e w2 ⟨rfl, hb⟩
          have k2 : Below w.heap.size w w2 := ext_step k1 (by omega) hb
          have p2 := hb.size
          replace hk0 := hk0.ext hb
          have bl0 := Nat.lt_of_lt_of_le bl0 hb.size
          clear hb
          go_wp2_with fail
          obtain ⟨w3, hW0⟩ : ∃ W, W = (w2.alloc (.cells #[.int .i64 6, .int .i64 a0, .int .i64 a1, .int .i64 0, .int .i64 0, .int .i64 0, .int .i64 0, .string ⟨#[]⟩] 29)) := ⟨_, rfl⟩
          have hb : Below w2.heap.size w2 w3 := by rw [hW0]; go_grown
          have bl1 : w2.heap.size < w3.heap.size := by rw [hW0]; go_size
          have hk1 : Blk w3 (w2.heap.size) 29 [.int .i64 6, .int .i64 a0, .int .i64 a1, .int .i64 0, .int .i64 0, .int .i64 0, .int .i64 0, .string ⟨#[]⟩] := by rw [hW0]; exact Blk.new _ _ _
          rw [← hW0]
          clear hW0
          have k3 := ext_step k2 (by omega) hb
          have p3 := hb.size
          replace hk0 := hk0.ext hb
          have bl0 := Nat.lt_of_lt_of_le bl0 hb.size
          clear hb
          refine (h4 _).mono ?_
          rintro e w4 ⟨rfl, hb⟩
          have k4 : Below w.heap.size w w4 := ext_step k3 (by omega) hb
          have p4 := hb.size
          replace hk0 := hk0.ext hb
          replace hk1 := hk1.ext hb
          have bl0 := Nat.lt_of_lt_of_le bl0 hb.size
          have bl1 := Nat.lt_of_lt_of_le bl1 hb.size
          clear hb
          have bx1_3 := hk1.at_ 3 _ rfl
          have fz1_3 := hk1.frozen 3
          go_wp2_with fail
          have hc : ChgA (w2.heap.size) w4 (w4.setCell ⟨w2.heap.size, 3, none⟩ (.int .i64 a2)) := (ChgA.refl _ _).set _ _
          have hko := hk1
          replace hk0 := hk0.chgA hc (by omega)
          replace hk1 : Blk (w4.setCell ⟨w2.heap.size, 3, none⟩ (.int .i64 a2)) (w2.heap.size) 29 [.int .i64 6, .int .i64 a0, .int .i64 a1, .int .i64 a2, .int .i64 0, .int .i64 0, .int .i64 0, .string ⟨#[]⟩] := hk1.set_ 3 _
          have k5 : Below w.heap.size w (w4.setCell ⟨w2.heap.size, 3, none⟩ (.int .i64 a2)) := hc.below (by omega) k4
          have p5 : (w4.setCell ⟨w2.heap.size, 3, none⟩ (.int .i64 a2)).heap.size = w4.heap.size := hc.size
          have bl0 := Nat.lt_of_lt_of_le bl0 (Nat.le_of_eq p5.symm)
          have bl1 := Nat.lt_of_lt_of_le bl1 (Nat.le_of_eq p5.symm)
          generalize hW0 : (w4.setCell ⟨w2.heap.size, 3, none⟩ (.int .i64 a2)) = w5 at *
          clear hW0 hc hko
          clear bx1_3 fz1_3
          refine (h8 _).mono ?_
          rintro e w6 ⟨rfl, hb⟩
          have k6 : Below w.heap.size w w6 := ext_step k5 (by omega) hb
          have p6 := hb.size
          replace hk0 := hk0.ext hb
          replace hk1 := hk1.ext hb
          have bl0 := Nat.lt_of_lt_of_le bl0 hb.size
          have bl1 := Nat.lt_of_lt_of_le bl1 hb.size
          clear hb
          have bx1_4 := hk1.at_ 4 _ rfl
          have fz1_4 := hk1.frozen 4
          have bx1_5 := hk1.at_ 5 _ rfl
          have fz1_5 := hk1.frozen 5
          go_wp2_with fail
          have hc : ChgA (w2.heap.size) w6 (w6.setCell ⟨w2.heap.size, 4, none⟩ (.int .i64 a3)) := (ChgA.refl _ _).set _ _
          have hko := hk1
          replace hk0 := hk0.chgA hc (by omega)
          replace hk1 : Blk (w6.setCell ⟨w2.heap.size, 4, none⟩ (.int .i64 a3)) (w2.heap.size) 29 [.int .i64 6, .int .i64 a0, .int .i64 a1, .int .i64 a2, .int .i64 a3, .int .i64 0, .int .i64 0, .string ⟨#[]⟩] := hk1.set_ 4 _
          have k7 : Below w.heap.size w (w6.setCell ⟨w2.heap.size, 4, none⟩ (.int .i64 a3)) := hc.below (by omega) k6
          have p7 : (w6.setCell ⟨w2.heap.size, 4, none⟩ (.int .i64 a3)).heap.size = w6.heap.size := hc.size
          have bl0 := Nat.lt_of_lt_of_le bl0 (Nat.le_of_eq p7.symm)
          have bl1 := Nat.lt_of_lt_of_le bl1 (Nat.le_of_eq p7.symm)
          generalize hW0 : (w6.setCell ⟨w2.heap.size, 4, none⟩ (.int .i64 a3)) = w7 at *
          clear hW0 hc hko
          clear bx1_4 fz1_4 bx1_5 fz1_5
          have hc : ChgA (w2.heap.size) w7 (w7.setCell ⟨w2.heap.size, 5, none⟩ (.int .i64 (byt s 13))) := (ChgA.refl _ _).set _ _
          have hko := hk1
          replace hk0 := hk0.chgA hc (by omega)
          replace hk1 : Blk (w7.setCell ⟨w2.heap.size, 5, none⟩ (.int .i64 (byt s 13))) (w2.heap.size) 29 [.int .i64 6, .int .i64 a0, .int .i64 a1, .int .i64 a2, .int .i64 a3, .int .i64 (byt s 13), .int .i64 0, .string ⟨#[]⟩] := hk1.set_ 5 _
          have k8 : Below w.heap.size w (w7.setCell ⟨w2.heap.size, 5, none⟩ (.int .i64 (byt s 13))) := hc.below (by omega) k7
          have p8 : (w7.setCell ⟨w2.heap.size, 5, none⟩ (.int .i64 (byt s 13))).heap.size = w7.heap.size := hc.size
          have bl0 := Nat.lt_of_lt_of_le bl0 (Nat.le_of_eq p8.symm)
          have bl1 := Nat.lt_of_lt_of_le bl1 (Nat.le_of_eq p8.symm)
          generalize hW0 : (w7.setCell ⟨w2.heap.size, 5, none⟩ (.int .i64 (byt s 13))) = w8 at *
          clear hW0 hc hko
          refine (h14 _).mono ?_
          rintro e w9 ⟨rfl, hb⟩
          have k9 : Below w.heap.size w w9 := ext_step k8 (by omega) hb
          have p9 := hb.size
          replace hk0 := hk0.ext hb
          replace hk1 := hk1.ext hb
          have bl0 := Nat.lt_of_lt_of_le bl0 hb.size
          have bl1 := Nat.lt_of_lt_of_le bl1 hb.size
          clear hb
          have bx1_0 := hk1.at_ 0 _ rfl
          have fz1_0 := hk1.frozen 0
          have bx1_1 := hk1.at_ 1 _ rfl
          have fz1_1 := hk1.frozen 1
          have bx1_2 := hk1.at_ 2 _ rfl
          have fz1_2 := hk1.frozen 2
          have bx1_3 := hk1.at_ 3 _ rfl
          have fz1_3 := hk1.frozen 3
          have bx1_4 := hk1.at_ 4 _ rfl
          have fz1_4 := hk1.frozen 4
          have bx1_5 := hk1.at_ 5 _ rfl
          have fz1_5 := hk1.frozen 5
          have bx1_6 := hk1.at_ 6 _ rfl
          have fz1_6 := hk1.frozen 6
          have bx1_7 := hk1.at_ 7 _ rfl
          have fz1_7 := hk1.frozen 7
          go_wp2_with fail
          have hc : ChgA (w2.heap.size) w9 (w9.setCell ⟨w2.heap.size, 6, none⟩ (.int .i64 a4)) := (ChgA.refl _ _).set _ _
          have hko := hk1
          replace hk0 := hk0.chgA hc (by omega)
          replace hk1 : Blk (w9.setCell ⟨w2.heap.size, 6, none⟩ (.int .i64 a4)) (w2.heap.size) 29 [.int .i64 6, .int .i64 a0, .int .i64 a1, .int .i64 a2, .int .i64 a3, .int .i64 (byt s 13), .int .i64 a4, .string ⟨#[]⟩] := hk1.set_ 6 _
          have k10 : Below w.heap.size w (w9.setCell ⟨w2.heap.size, 6, none⟩ (.int .i64 a4)) := hc.below (by omega) k9
          have p10 : (w9.setCell ⟨w2.heap.size, 6, none⟩ (.int .i64 a4)).heap.size = w9.heap.size := hc.size
          have bl0 := Nat.lt_of_lt_of_le bl0 (Nat.le_of_eq p10.symm)
          have bl1 := Nat.lt_of_lt_of_le bl1 (Nat.le_of_eq p10.symm)
          generalize hW0 : (w9.setCell ⟨w2.heap.size, 6, none⟩ (.int .i64 a4)) = w10 at *
          clear hW0 hc hko
          clear bx1_0 fz1_0 bx1_1 fz1_1 bx1_2 fz1_2 bx1_3 fz1_3 bx1_4 fz1_4 bx1_5 fz1_5 bx1_6 fz1_6 bx1_7 fz1_7
          have hc : ChgA (w2.heap.size) w10 (w10.setCell ⟨w2.heap.size, 7, none⟩ (.string B)) := (ChgA.refl _ _).set _ _
          have hko := hk1
          replace hk0 := hk0.chgA hc (by omega)
          replace hk1 : Blk (w10.setCell ⟨w2.heap.size, 7, none⟩ (.string B)) (w2.heap.size) 29 [.int .i64 6, .int .i64 a0, .int .i64 a1, .int .i64 a2, .int .i64 a3, .int .i64 (byt s 13), .int .i64 a4, .string B] := hk1.set_ 7 _
          have k11 : Below w.heap.size w (w10.setCell ⟨w2.heap.size, 7, none⟩ (.string B)) := hc.below (by omega) k10
          have p11 : (w10.setCell ⟨w2.heap.size, 7, none⟩ (.string B)).heap.size = w10.heap.size := hc.size
          have bl0 := Nat.lt_of_lt_of_le bl0 (Nat.le_of_eq p11.symm)
          have bl1 := Nat.lt_of_lt_of_le bl1 (Nat.le_of_eq p11.symm)
          generalize hW0 : (w10.setCell ⟨w2.heap.size, 7, none⟩ (.string B)) = w11 at *
          clear hW0 hc hko
          clear ew x13 h4 h8 h14
          refine (hbs _).mono ?_
          rintro e w12 ⟨rfl, hb⟩
          have k12 : Below w.heap.size w w12 := ext_step k11 (by omega) hb
          have p12 := hb.size
          replace hk0 := hk0.ext hb
          replace hk1 := hk1.ext hb
          have bl0 := Nat.lt_of_lt_of_le bl0 hb.size
          have bl1 := Nat.lt_of_lt_of_le bl1 hb.size
          clear hb
          have bx1_0 := hk1.at_ 0 _ rfl
          have bx1_1 := hk1.at_ 1 _ rfl
          have bx1_2 := hk1.at_ 2 _ rfl
          have bx1_3 := hk1.at_ 3 _ rfl
          have bx1_4 := hk1.at_ 4 _ rfl
          have bx1_5 := hk1.at_ 5 _ rfl
          have bx1_6 := hk1.at_ 6 _ rfl
          have bx1_7 := hk1.at_ 7 _ rfl
          have bx0_0 := hk0.at_ 0 _ rfl
          have fz0_0 := hk0.frozen 0
          have bx0_1 := hk0.at_ 1 _ rfl
          have fz0_1 := hk0.frozen 1
          have bx0_2 := hk0.at_ 2 _ rfl
          have fz0_2 := hk0.frozen 2
          have bx0_3 := hk0.at_ 3 _ rfl
          have fz0_3 := hk0.frozen 3
          have bx0_4 := hk0.at_ 4 _ rfl
          have fz0_4 := hk0.frozen 4
          have bx0_5 := hk0.at_ 5 _ rfl
          have fz0_5 := hk0.frozen 5
          have bx0_6 := hk0.at_ 6 _ rfl
          have fz0_6 := hk0.frozen 6
          have bx0_7 := hk0.at_ 7 _ rfl
          have fz0_7 := hk0.frozen 7
          go_wp2_with fail
          clear bx1_0 bx1_1 bx1_2 bx1_3 bx1_4 bx1_5 bx1_6 bx1_7 hk1
          have hcc := ChgA.refl (w.heap.size) w12
          obtain ⟨w13_0, hW0⟩ : ∃ W, W = w12.setCell ⟨w.heap.size, 0, none⟩ (.int .i64 6) := ⟨_, rfl⟩
          replace hcc : ChgA (w.heap.size) w12 w13_0 := by rw [hW0]; exact hcc.set _ _
          replace hk0 : Blk w13_0 (w.heap.size) 29 [.int .i64 6, .int .i64 0, .int .i64 0, .int .i64 0, .int .i64 0, .int .i64 0, .int .i64 0, .string ⟨#[]⟩] := by rw [hW0]; exact hk0.set_ 0 _
          rw [← hW0]
          clear hW0
          obtain ⟨w13_1, hW0⟩ : ∃ W, W = w13_0.setCell ⟨w.heap.size, 1, none⟩ (.int .i64 a0) := ⟨_, rfl⟩
          replace hcc : ChgA (w.heap.size) w12 w13_1 := by rw [hW0]; exact hcc.set _ _
          replace hk0 : Blk w13_1 (w.heap.size) 29 [.int .i64 6, .int .i64 a0, .int .i64 0, .int .i64 0, .int .i64 0, .int .i64 0, .int .i64 0, .string ⟨#[]⟩] := by rw [hW0]; exact hk0.set_ 1 _
          rw [← hW0]
          clear hW0
          obtain ⟨w13_2, hW0⟩ : ∃ W, W = w13_1.setCell ⟨w.heap.size, 2, none⟩ (.int .i64 a1) := ⟨_, rfl⟩
          replace hcc : ChgA (w.heap.size) w12 w13_2 := by rw [hW0]; exact hcc.set _ _
          replace hk0 : Blk w13_2 (w.heap.size) 29 [.int .i64 6, .int .i64 a0, .int .i64 a1, .int .i64 0, .int .i64 0, .int .i64 0, .int .i64 0, .string ⟨#[]⟩] := by rw [hW0]; exact hk0.set_ 2 _
          rw [← hW0]
          clear hW0
          obtain ⟨w13_3, hW0⟩ : ∃ W, W = w13_2.setCell ⟨w.heap.size, 3, none⟩ (.int .i64 a2) := ⟨_, rfl⟩
          replace hcc : ChgA (w.heap.size) w12 w13_3 := by rw [hW0]; exact hcc.set _ _
          replace hk0 : Blk w13_3 (w.heap.size) 29 [.int .i64 6, .int .i64 a0, .int .i64 a1, .int .i64 a2, .int .i64 0, .int .i64 0, .int .i64 0, .string ⟨#[]⟩] := by rw [hW0]; exact hk0.set_ 3 _
          rw [← hW0]
          clear hW0
          obtain ⟨w13_4, hW0⟩ : ∃ W, W = w13_3.setCell ⟨w.heap.size, 4, none⟩ (.int .i64 a3) := ⟨_, rfl⟩
          replace hcc : ChgA (w.heap.size) w12 w13_4 := by rw [hW0]; exact hcc.set _ _
          replace hk0 : Blk w13_4 (w.heap.size) 29 [.int .i64 6, .int .i64 a0, .int .i64 a1, .int .i64 a2, .int .i64 a3, .int .i64 0, .int .i64 0, .string ⟨#[]⟩] := by rw [hW0]; exact hk0.set_ 4 _
          rw [← hW0]
          clear hW0
          obtain ⟨w13_5, hW0⟩ : ∃ W, W = w13_4.setCell ⟨w.heap.size, 5, none⟩ (.int .i64 (byt s 13)) := ⟨_, rfl⟩
          replace hcc : ChgA (w.heap.size) w12 w13_5 := by rw [hW0]; exact hcc.set _ _
          replace hk0 : Blk w13_5 (w.heap.size) 29 [.int .i64 6, .int .i64 a0, .int .i64 a1, .int .i64 a2, .int .i64 a3, .int .i64 (byt s 13), .int .i64 0, .string ⟨#[]⟩] := by rw [hW0]; exact hk0.set_ 5 _
          rw [← hW0]
          clear hW0
          obtain ⟨w13_6, hW0⟩ : ∃ W, W = w13_5.setCell ⟨w.heap.size, 6, none⟩ (.int .i64 a4) := ⟨_, rfl⟩
          replace hcc : ChgA (w.heap.size) w12 w13_6 := by rw [hW0]; exact hcc.set _ _
          replace hk0 : Blk w13_6 (w.heap.size) 29 [.int .i64 6, .int .i64 a0, .int .i64 a1, .int .i64 a2, .int .i64 a3, .int .i64 (byt s 13), .int .i64 a4, .string ⟨#[]⟩] := by rw [hW0]; exact hk0.set_ 6 _
          rw [← hW0]
          clear hW0
          obtain ⟨w13, hW0⟩ : ∃ W, W = w13_6.setCell ⟨w.heap.size, 7, none⟩ (.string B) := ⟨_, rfl⟩
          replace hcc : ChgA (w.heap.size) w12 w13 := by rw [hW0]; exact hcc.set _ _
          replace hk0 : Blk w13 (w.heap.size) 29 [.int .i64 6, .int .i64 a0, .int .i64 a1, .int .i64 a2, .int .i64 a3, .int .i64 (byt s 13), .int .i64 a4, .string B] := by rw [hW0]; exact hk0.set_ 7 _
          rw [← hW0]
          clear hW0
          have hc := hcc
          have k13 := hc.below (by omega) k12
          have p13 := hc.size
          replace bl0 := Nat.lt_of_lt_of_le bl0 (Nat.le_of_eq p13.symm)
          replace bl1 := Nat.lt_of_lt_of_le bl1 (Nat.le_of_eq p13.symm)
          clear hc hcc
          clear bx0_0 fz0_0 bx0_1 fz0_1 bx0_2 fz0_2 bx0_3 fz0_3 bx0_4 fz0_4 bx0_5 fz0_5 bx0_6 fz0_6 bx0_7 fz0_7
          have bx0_0 := hk0.at_ 0 _ rfl
          have bx0_1 := hk0.at_ 1 _ rfl
          have bx0_2 := hk0.at_ 2 _ rfl
          have bx0_3 := hk0.at_ 3 _ rfl
          have bx0_4 := hk0.at_ 4 _ rfl
          have bx0_5 := hk0.at_ 5 _ rfl
          have bx0_6 := hk0.at_ 6 _ rfl
          have bx0_7 := hk0.at_ 7 _ rfl
          refine bodyPost_ret (v := .tuple #[.agg #[.int .i64 6, .int .i64 a0, .int .i64 a1, .int .i64 a2, .int .i64 a3, .int .i64 (byt s 13), .int .i64 a4, .string B], .bool true]) (by simp [results, Try.results125, go_sem, bx0_0, bx0_1, bx0_2, bx0_3, bx0_4, bx0_5, bx0_6, bx0_7]) rfl ?_
          exact ⟨rfl, k13⟩
    · have l20 : ¬ (20 : Int) ≤ (s.size : Int) := by omega
      have hok0 : okR si di 6 s = false := by simp [okR, tcpB, udpB, h20]
      rw [hok0]
      simp only [sgI_no hok0, sgT_no hok0]
      clear hok0
      go_enter Try.func125, Try.ntmps125
      go_wp2_with fail
      have k0 : Below w.heap.size w (w.alloc (.cells #[.int .i64 0, .int .i64 0, .int .i64 0, .int .i64 0, .int .i64 0, .int .i64 0, .int .i64 0, .string ⟨#[]⟩] 29)) := by go_grown
      have bl0 : w.heap.size < (w.alloc (.cells #[.int .i64 0, .int .i64 0, .int .i64 0, .int .i64 0, .int .i64 0, .int .i64 0, .int .i64 0, .string ⟨#[]⟩] 29)).heap.size := by go_size
      have hk0 : Blk (w.alloc (.cells #[.int .i64 0, .int .i64 0, .int .i64 0, .int .i64 0, .int .i64 0, .int .i64 0, .int .i64 0, .string ⟨#[]⟩] 29)) (w.heap.size) 29 [.int .i64 0, .int .i64 0, .int .i64 0, .int .i64 0, .int .i64 0, .int .i64 0, .int .i64 0, .string ⟨#[]⟩] := by simpa using Blk.new w 29 [.int .i64 0, .int .i64 0, .int .i64 0, .int .i64 0, .int .i64 0, .int .i64 0, .int .i64 0, .string ⟨#[]⟩]
      have p0 := k0.size
      generalize hW0 : (w.alloc (.cells #[.int .i64 0, .int .i64 0, .int .i64 0, .int .i64 0, .int .i64 0, .int .i64 0, .int .i64 0, .string ⟨#[]⟩] 29)) = w0 at *
      clear hW0
      refine (ha _).mono ?_
      rintro e w1 ⟨rfl, hb⟩
      have k1 : Below w.heap.size w w1 := ext_step k0 (by omega) hb
      have p1 := hb.size
      replace hk0 := hk0.ext hb
      have bl0 := Nat.lt_of_lt_of_le bl0 hb.size
      clear hb
      go_wp2_with fail
      refine (hc2 _).mono ?_
      rintro e w2 ⟨rfl, hb⟩
      have k2 : Below w.heap.size w w2 := ext_step k1 (by omega) hb
      have p2 := hb.size
      replace hk0 := hk0.ext hb
      have bl0 := Nat.lt_of_lt_of_le bl0 hb.size
      clear hb
      go_upto_region 2 with fail
      obtain ⟨w3, hW0⟩ : ∃ W, W = (w2.alloc (.cells #[.int .i64 6, .int .i64 a0, .int .i64 a1, .int .i64 0, .int .i64 0, .int .i64 0, .int .i64 0, .string ⟨#[]⟩] 29)) := ⟨_, rfl⟩
      have hb : Below w2.heap.size w2 w3 := by rw [hW0]; go_grown
      have bl1 : w2.heap.size < w3.heap.size := by rw [hW0]; go_size
      have hk1 : Blk w3 (w2.heap.size) 29 [.int .i64 6, .int .i64 a0, .int .i64 a1, .int .i64 0, .int .i64 0, .int .i64 0, .int .i64 0, .string ⟨#[]⟩] := by rw [hW0]; exact Blk.new _ _ _
      rw [← hW0]
      clear hW0
      have k3 := ext_step k2 (by omega) hb
      have p3 := hb.size
      replace hk0 := hk0.ext hb
      have bl0 := Nat.lt_of_lt_of_le bl0 hb.size
      clear hb
      clear  hk1
      have bx0_0 := hk0.at_ 0 _ rfl
      have fz0_0 := hk0.frozen 0
      have bx0_1 := hk0.at_ 1 _ rfl
      have fz0_1 := hk0.frozen 1
      have bx0_2 := hk0.at_ 2 _ rfl
      have fz0_2 := hk0.frozen 2
      have bx0_3 := hk0.at_ 3 _ rfl
      have fz0_3 := hk0.frozen 3
      have bx0_4 := hk0.at_ 4 _ rfl
      have fz0_4 := hk0.frozen 4
      have bx0_5 := hk0.at_ 5 _ rfl
      have fz0_5 := hk0.frozen 5
      have bx0_6 := hk0.at_ 6 _ rfl
      have fz0_6 := hk0.frozen 6
      have bx0_7 := hk0.at_ 7 _ rfl
      have fz0_7 := hk0.frozen 7
      go_wp2_with fail
      have hcc := ChgA.refl (w.heap.size) w3
      obtain ⟨w4_0, hW0⟩ : ∃ W, W = w3.setCell ⟨w.heap.size, 0, none⟩ (.int .i64 0) := ⟨_, rfl⟩
      replace hcc : ChgA (w.heap.size) w3 w4_0 := by rw [hW0]; exact hcc.set _ _
      replace hk0 : Blk w4_0 (w.heap.size) 29 [.int .i64 0, .int .i64 0, .int .i64 0, .int .i64 0, .int .i64 0, .int .i64 0, .int .i64 0, .string ⟨#[]⟩] := by rw [hW0]; exact hk0.set_ 0 _
      rw [← hW0]
      clear hW0
      obtain ⟨w4_1, hW0⟩ : ∃ W, W = w4_0.setCell ⟨w.heap.size, 1, none⟩ (.int .i64 0) := ⟨_, rfl⟩
      replace hcc : ChgA (w.heap.size) w3 w4_1 := by rw [hW0]; exact hcc.set _ _
      replace hk0 : Blk w4_1 (w.heap.size) 29 [.int .i64 0, .int .i64 0, .int .i64 0, .int .i64 0, .int .i64 0, .int .i64 0, .int .i64 0, .string ⟨#[]⟩] := by rw [hW0]; exact hk0.set_ 1 _
      rw [← hW0]
      clear hW0
      obtain ⟨w4_2, hW0⟩ : ∃ W, W = w4_1.setCell ⟨w.heap.size, 2, none⟩ (.int .i64 0) := ⟨_, rfl⟩
      replace hcc : ChgA (w.heap.size) w3 w4_2 := by rw [hW0]; exact hcc.set _ _
      replace hk0 : Blk w4_2 (w.heap.size) 29 [.int .i64 0, .int .i64 0, .int .i64 0, .int .i64 0, .int .i64 0, .int .i64 0, .int .i64 0, .string ⟨#[]⟩] := by rw [hW0]; exact hk0.set_ 2 _
      rw [← hW0]
      clear hW0
      obtain ⟨w4_3, hW0⟩ : ∃ W, W = w4_2.setCell ⟨w.heap.size, 3, none⟩ (.int .i64 0) := ⟨_, rfl⟩
      replace hcc : ChgA (w.heap.size) w3 w4_3 := by rw [hW0]; exact hcc.set _ _
      replace hk0 : Blk w4_3 (w.heap.size) 29 [.int .i64 0, .int .i64 0, .int .i64 0, .int .i64 0, .int .i64 0, .int .i64 0, .int .i64 0, .string ⟨#[]⟩] := by rw [hW0]; exact hk0.set_ 3 _
      rw [← hW0]
      clear hW0
      obtain ⟨w4_4, hW0⟩ : ∃ W, W = w4_3.setCell ⟨w.heap.size, 4, none⟩ (.int .i64 0) := ⟨_, rfl⟩
      replace hcc : ChgA (w.heap.size) w3 w4_4 := by rw [hW0]; exact hcc.set _ _
      replace hk0 : Blk w4_4 (w.heap.size) 29 [.int .i64 0, .int .i64 0, .int .i64 0, .int .i64 0, .int .i64 0, .int .i64 0, .int .i64 0, .string ⟨#[]⟩] := by rw [hW0]; exact hk0.set_ 4 _
      rw [← hW0]
      clear hW0
      obtain ⟨w4_5, hW0⟩ : ∃ W, W = w4_4.setCell ⟨w.heap.size, 5, none⟩ (.int .i64 0) := ⟨_, rfl⟩
      replace hcc : ChgA (w.heap.size) w3 w4_5 := by rw [hW0]; exact hcc.set _ _
      replace hk0 : Blk w4_5 (w.heap.size) 29 [.int .i64 0, .int .i64 0, .int .i64 0, .int .i64 0, .int .i64 0, .int .i64 0, .int .i64 0, .string ⟨#[]⟩] := by rw [hW0]; exact hk0.set_ 5 _
      rw [← hW0]
      clear hW0
      obtain ⟨w4_6, hW0⟩ : ∃ W, W = w4_5.setCell ⟨w.heap.size, 6, none⟩ (.int .i64 0) := ⟨_, rfl⟩
      replace hcc : ChgA (w.heap.size) w3 w4_6 := by rw [hW0]; exact hcc.set _ _
      replace hk0 : Blk w4_6 (w.heap.size) 29 [.int .i64 0, .int .i64 0, .int .i64 0, .int .i64 0, .int .i64 0, .int .i64 0, .int .i64 0, .string ⟨#[]⟩] := by rw [hW0]; exact hk0.set_ 6 _
      rw [← hW0]
      clear hW0
      obtain ⟨w4, hW0⟩ : ∃ W, W = w4_6.setCell ⟨w.heap.size, 7, none⟩ (.string ⟨#[]⟩) := ⟨_, rfl⟩
      replace hcc : ChgA (w.heap.size) w3 w4 := by rw [hW0]; exact hcc.set _ _
      replace hk0 : Blk w4 (w.heap.size) 29 [.int .i64 0, .int .i64 0, .int .i64 0, .int .i64 0, .int .i64 0, .int .i64 0, .int .i64 0, .string ⟨#[]⟩] := by rw [hW0]; exact hk0.set_ 7 _
      rw [← hW0]
      clear hW0
      have hc := hcc
      have k4 := hc.below (by omega) k3
      have p4 := hc.size
      replace bl0 := Nat.lt_of_lt_of_le bl0 (Nat.le_of_eq p4.symm)
      replace bl1 := Nat.lt_of_lt_of_le bl1 (Nat.le_of_eq p4.symm)
      clear hc hcc
      clear bx0_0 fz0_0 bx0_1 fz0_1 bx0_2 fz0_2 bx0_3 fz0_3 bx0_4 fz0_4 bx0_5 fz0_5 bx0_6 fz0_6 bx0_7 fz0_7
      have bx0_0 := hk0.at_ 0 _ rfl
      have bx0_1 := hk0.at_ 1 _ rfl
      have bx0_2 := hk0.at_ 2 _ rfl
      have bx0_3 := hk0.at_ 3 _ rfl
      have bx0_4 := hk0.at_ 4 _ rfl
      have bx0_5 := hk0.at_ 5 _ rfl
      have bx0_6 := hk0.at_ 6 _ rfl
      have bx0_7 := hk0.at_ 7 _ rfl
      refine bodyPost_ret (v := .tuple #[.agg #[.int .i64 0, .int .i64 0, .int .i64 0, .int .i64 0, .int .i64 0, .int .i64 0, .int .i64 0, .string ⟨#[]⟩], .bool false]) (by simp [results, Try.results125, go_sem, bx0_0, bx0_1, bx0_2, bx0_3, bx0_4, bx0_5, bx0_6, bx0_7]) rfl ?_
      exact ⟨rfl, k4⟩
  · by_cases h17 : kd = 17
    · subst h17
      by_cases h8_ : 8 ≤ s.size
      · have d1 : sqR 17 s = 0 := if_neg (by decide)
        have d2 : akR 17 s = 0 := if_neg (by decide)
        have d3 : flR 17 s = 0 := if_neg (by decide)
        have d4 : wnR 17 s = 0 := if_neg (by decide)
        have d5 : bdR 17 s = s.extract 8 s.size := if_neg (by decide)
        have ln : (8 : Int) ≤ (s.size : Int) := by omega
        have hBs : (s.extract 8 s.size).size ≤ 1048576 := by rw [ByteArray.size_extract]; omega
        obtain ⟨B, hB⟩ : ∃ B, s.extract 8 s.size = B := ⟨_, rfl⟩
        rw [hB] at d5 hBs
        have hcond : (tcpB 17 s || udpB 17 s) = true := by simp [tcpB, udpB]; omega
        have hbs := fun u => specBuildSegment_c si di 17 a0 a1 0 0 0 0 B u hBs hsi hdi
        simp only [d1, d2, d3, d4, d5, g0, g1]
        cases hsg : segB 17 a0 a1 0 0 0 0 B
        · have hok0 : okR si di 17 s = false := by rw [okR, hcond, d1, d2, d3, d4, d5, g0, g1, hsg]; rfl
          rw [hok0]
          simp only [sgI_no hok0, sgT_no hok0]
          simp only [hsg, Bool.false_eq_true, if_false] at hbs
          clear hcond hsg hok0 d1 d2 d3 d4 d5 g0 g1
          go_enter Try.func125, Try.ntmps125
          go_wp2_with fail
          have k0 : Below w.heap.size w (w.alloc (.cells #[.int .i64 0, .int .i64 0, .int .i64 0, .int .i64 0, .int .i64 0, .int .i64 0, .int .i64 0, .string ⟨#[]⟩] 29)) := by go_grown
          have bl0 : w.heap.size < (w.alloc (.cells #[.int .i64 0, .int .i64 0, .int .i64 0, .int .i64 0, .int .i64 0, .int .i64 0, .int .i64 0, .string ⟨#[]⟩] 29)).heap.size := by go_size
          have hk0 : Blk (w.alloc (.cells #[.int .i64 0, .int .i64 0, .int .i64 0, .int .i64 0, .int .i64 0, .int .i64 0, .int .i64 0, .string ⟨#[]⟩] 29)) (w.heap.size) 29 [.int .i64 0, .int .i64 0, .int .i64 0, .int .i64 0, .int .i64 0, .int .i64 0, .int .i64 0, .string ⟨#[]⟩] := by simpa using Blk.new w 29 [.int .i64 0, .int .i64 0, .int .i64 0, .int .i64 0, .int .i64 0, .int .i64 0, .int .i64 0, .string ⟨#[]⟩]
          have p0 := k0.size
          generalize hW0 : (w.alloc (.cells #[.int .i64 0, .int .i64 0, .int .i64 0, .int .i64 0, .int .i64 0, .int .i64 0, .int .i64 0, .string ⟨#[]⟩] 29)) = w0 at *
          clear hW0
          refine (ha _).mono ?_
          rintro e w1 ⟨rfl, hb⟩
          have k1 : Below w.heap.size w w1 := ext_step k0 (by omega) hb
          have p1 := hb.size
          replace hk0 := hk0.ext hb
          have bl0 := Nat.lt_of_lt_of_le bl0 hb.size
          clear hb
          go_wp2_with fail
          refine (hc2 _).mono ?_
          rintro e w2 ⟨rfl, hb⟩
          have k2 : Below w.heap.size w w2 := ext_step k1 (by omega) hb
          have p2 := hb.size
          replace hk0 := hk0.ext hb
          have bl0 := Nat.lt_of_lt_of_le bl0 hb.size
          clear hb
          go_wp2_with fail
          obtain ⟨w3, hW0⟩ : ∃ W, W = (w2.alloc (.cells #[.int .i64 17, .int .i64 a0, .int .i64 a1, .int .i64 0, .int .i64 0, .int .i64 0, .int .i64 0, .string B] 29)) := ⟨_, rfl⟩
          have hb : Below w2.heap.size w2 w3 := by rw [hW0]; go_grown
          have bl1 : w2.heap.size < w3.heap.size := by rw [hW0]; go_size
          have hk1 : Blk w3 (w2.heap.size) 29 [.int .i64 17, .int .i64 a0, .int .i64 a1, .int .i64 0, .int .i64 0, .int .i64 0, .int .i64 0, .string B] := by rw [hW0]; exact Blk.new _ _ _
          rw [← hW0]
          clear hW0
          have k3 := ext_step k2 (by omega) hb
          have p3 := hb.size
          replace hk0 := hk0.ext hb
          have bl0 := Nat.lt_of_lt_of_le bl0 hb.size
          clear hb
          refine (hbs _).mono ?_
          rintro e w4 ⟨rfl, hb⟩
          have k4 : Below w.heap.size w w4 := ext_step k3 (by omega) hb
          have p4 := hb.size
          replace hk0 := hk0.ext hb
          replace hk1 := hk1.ext hb
          have bl0 := Nat.lt_of_lt_of_le bl0 hb.size
          have bl1 := Nat.lt_of_lt_of_le bl1 hb.size
          clear hb
          clear  hk1
          have bx0_0 := hk0.at_ 0 _ rfl
          have fz0_0 := hk0.frozen 0
          have bx0_1 := hk0.at_ 1 _ rfl
          have fz0_1 := hk0.frozen 1
          have bx0_2 := hk0.at_ 2 _ rfl
          have fz0_2 := hk0.frozen 2
          have bx0_3 := hk0.at_ 3 _ rfl
          have fz0_3 := hk0.frozen 3
          have bx0_4 := hk0.at_ 4 _ rfl
          have fz0_4 := hk0.frozen 4
          have bx0_5 := hk0.at_ 5 _ rfl
          have fz0_5 := hk0.frozen 5
          have bx0_6 := hk0.at_ 6 _ rfl
          have fz0_6 := hk0.frozen 6
          have bx0_7 := hk0.at_ 7 _ rfl
          have fz0_7 := hk0.frozen 7
          go_wp2_with fail
          have hcc := ChgA.refl (w.heap.size) w4
          obtain ⟨w5_0, hW0⟩ : ∃ W, W = w4.setCell ⟨w.heap.size, 0, none⟩ (.int .i64 0) := ⟨_, rfl⟩
          replace hcc : ChgA (w.heap.size) w4 w5_0 := by rw [hW0]; exact hcc.set _ _
          replace hk0 : Blk w5_0 (w.heap.size) 29 [.int .i64 0, .int .i64 0, .int .i64 0, .int .i64 0, .int .i64 0, .int .i64 0, .int .i64 0, .string ⟨#[]⟩] := by rw [hW0]; exact hk0.set_ 0 _
          rw [← hW0]
          clear hW0
          obtain ⟨w5_1, hW0⟩ : ∃ W, W = w5_0.setCell ⟨w.heap.size, 1, none⟩ (.int .i64 0) := ⟨_, rfl⟩
          replace hcc : ChgA (w.heap.size) w4 w5_1 := by rw [hW0]; exact hcc.set _ _
          replace hk0 : Blk w5_1 (w.heap.size) 29 [.int .i64 0, .int .i64 0, .int .i64 0, .int .i64 0, .int .i64 0, .int .i64 0, .int .i64 0, .string ⟨#[]⟩] := by rw [hW0]; exact hk0.set_ 1 _
          rw [← hW0]
          clear hW0
          obtain ⟨w5_2, hW0⟩ : ∃ W, W = w5_1.setCell ⟨w.heap.size, 2, none⟩ (.int .i64 0) := ⟨_, rfl⟩
          replace hcc : ChgA (w.heap.size) w4 w5_2 := by rw [hW0]; exact hcc.set _ _
          replace hk0 : Blk w5_2 (w.heap.size) 29 [.int .i64 0, .int .i64 0, .int .i64 0, .int .i64 0, .int .i64 0, .int .i64 0, .int .i64 0, .string ⟨#[]⟩] := by rw [hW0]; exact hk0.set_ 2 _
          rw [← hW0]
          clear hW0
          obtain ⟨w5_3, hW0⟩ : ∃ W, W = w5_2.setCell ⟨w.heap.size, 3, none⟩ (.int .i64 0) := ⟨_, rfl⟩
          replace hcc : ChgA (w.heap.size) w4 w5_3 := by rw [hW0]; exact hcc.set _ _
          replace hk0 : Blk w5_3 (w.heap.size) 29 [.int .i64 0, .int .i64 0, .int .i64 0, .int .i64 0, .int .i64 0, .int .i64 0, .int .i64 0, .string ⟨#[]⟩] := by rw [hW0]; exact hk0.set_ 3 _
          rw [← hW0]
          clear hW0
          obtain ⟨w5_4, hW0⟩ : ∃ W, W = w5_3.setCell ⟨w.heap.size, 4, none⟩ (.int .i64 0) := ⟨_, rfl⟩
          replace hcc : ChgA (w.heap.size) w4 w5_4 := by rw [hW0]; exact hcc.set _ _
          replace hk0 : Blk w5_4 (w.heap.size) 29 [.int .i64 0, .int .i64 0, .int .i64 0, .int .i64 0, .int .i64 0, .int .i64 0, .int .i64 0, .string ⟨#[]⟩] := by rw [hW0]; exact hk0.set_ 4 _
          rw [← hW0]
          clear hW0
          obtain ⟨w5_5, hW0⟩ : ∃ W, W = w5_4.setCell ⟨w.heap.size, 5, none⟩ (.int .i64 0) := ⟨_, rfl⟩
          replace hcc : ChgA (w.heap.size) w4 w5_5 := by rw [hW0]; exact hcc.set _ _
          replace hk0 : Blk w5_5 (w.heap.size) 29 [.int .i64 0, .int .i64 0, .int .i64 0, .int .i64 0, .int .i64 0, .int .i64 0, .int .i64 0, .string ⟨#[]⟩] := by rw [hW0]; exact hk0.set_ 5 _
          rw [← hW0]
          clear hW0
          obtain ⟨w5_6, hW0⟩ : ∃ W, W = w5_5.setCell ⟨w.heap.size, 6, none⟩ (.int .i64 0) := ⟨_, rfl⟩
          replace hcc : ChgA (w.heap.size) w4 w5_6 := by rw [hW0]; exact hcc.set _ _
          replace hk0 : Blk w5_6 (w.heap.size) 29 [.int .i64 0, .int .i64 0, .int .i64 0, .int .i64 0, .int .i64 0, .int .i64 0, .int .i64 0, .string ⟨#[]⟩] := by rw [hW0]; exact hk0.set_ 6 _
          rw [← hW0]
          clear hW0
          obtain ⟨w5, hW0⟩ : ∃ W, W = w5_6.setCell ⟨w.heap.size, 7, none⟩ (.string ⟨#[]⟩) := ⟨_, rfl⟩
          replace hcc : ChgA (w.heap.size) w4 w5 := by rw [hW0]; exact hcc.set _ _
          replace hk0 : Blk w5 (w.heap.size) 29 [.int .i64 0, .int .i64 0, .int .i64 0, .int .i64 0, .int .i64 0, .int .i64 0, .int .i64 0, .string ⟨#[]⟩] := by rw [hW0]; exact hk0.set_ 7 _
          rw [← hW0]
          clear hW0
          have hc := hcc
          have k5 := hc.below (by omega) k4
          have p5 := hc.size
          replace bl0 := Nat.lt_of_lt_of_le bl0 (Nat.le_of_eq p5.symm)
          replace bl1 := Nat.lt_of_lt_of_le bl1 (Nat.le_of_eq p5.symm)
          clear hc hcc
          clear bx0_0 fz0_0 bx0_1 fz0_1 bx0_2 fz0_2 bx0_3 fz0_3 bx0_4 fz0_4 bx0_5 fz0_5 bx0_6 fz0_6 bx0_7 fz0_7
          have bx0_0 := hk0.at_ 0 _ rfl
          have bx0_1 := hk0.at_ 1 _ rfl
          have bx0_2 := hk0.at_ 2 _ rfl
          have bx0_3 := hk0.at_ 3 _ rfl
          have bx0_4 := hk0.at_ 4 _ rfl
          have bx0_5 := hk0.at_ 5 _ rfl
          have bx0_6 := hk0.at_ 6 _ rfl
          have bx0_7 := hk0.at_ 7 _ rfl
          refine bodyPost_ret (v := .tuple #[.agg #[.int .i64 0, .int .i64 0, .int .i64 0, .int .i64 0, .int .i64 0, .int .i64 0, .int .i64 0, .string ⟨#[]⟩], .bool false]) (by simp [results, Try.results125, go_sem, bx0_0, bx0_1, bx0_2, bx0_3, bx0_4, bx0_5, bx0_6, bx0_7]) rfl ?_
          exact ⟨rfl, k5⟩
        · simp only [hsg, if_true] at hbs
          obtain ⟨P, hP⟩ : ∃ P, segS si di 17 a0 a1 0 0 0 0 B = P := ⟨_, rfl⟩
          simp only [hP] at hbs
          cases hc : P.toList == s.toList
          · have hok0 : okR si di 17 s = false := by rw [okR, hcond, d1, d2, d3, d4, d5, g0, g1, hsg, hP, hc]; rfl
            rw [hok0]
            simp only [sgI_no hok0, sgT_no hok0]
            clear hcond hsg hok0 hP d1 d2 d3 d4 d5 g0 g1
            go_enter Try.func125, Try.ntmps125
            go_wp2_with fail
            have k0 : Below w.heap.size w (w.alloc (.cells #[.int .i64 0, .int .i64 0, .int .i64 0, .int .i64 0, .int .i64 0, .int .i64 0, .int .i64 0, .string ⟨#[]⟩] 29)) := by go_grown
            have bl0 : w.heap.size < (w.alloc (.cells #[.int .i64 0, .int .i64 0, .int .i64 0, .int .i64 0, .int .i64 0, .int .i64 0, .int .i64 0, .string ⟨#[]⟩] 29)).heap.size := by go_size
            have hk0 : Blk (w.alloc (.cells #[.int .i64 0, .int .i64 0, .int .i64 0, .int .i64 0, .int .i64 0, .int .i64 0, .int .i64 0, .string ⟨#[]⟩] 29)) (w.heap.size) 29 [.int .i64 0, .int .i64 0, .int .i64 0, .int .i64 0, .int .i64 0, .int .i64 0, .int .i64 0, .string ⟨#[]⟩] := by simpa using Blk.new w 29 [.int .i64 0, .int .i64 0, .int .i64 0, .int .i64 0, .int .i64 0, .int .i64 0, .int .i64 0, .string ⟨#[]⟩]
            have p0 := k0.size
            generalize hW0 : (w.alloc (.cells #[.int .i64 0, .int .i64 0, .int .i64 0, .int .i64 0, .int .i64 0, .int .i64 0, .int .i64 0, .string ⟨#[]⟩] 29)) = w0 at *
            clear hW0
            refine (ha _).mono ?_
            rintro e w1 ⟨rfl, hb⟩
            have k1 : Below w.heap.size w w1 := ext_step k0 (by omega) hb
            have p1 := hb.size
            replace hk0 := hk0.ext hb
            have bl0 := Nat.lt_of_lt_of_le bl0 hb.size
            clear hb
            go_wp2_with fail
            refine (hc2 _).mono ?_
            rintro e w2 ⟨rfl, hb⟩
            have k2 : Below w.heap.size w w2 := ext_step k1 (by omega) hb
            have p2 := hb.size
            replace hk0 := hk0.ext hb
            have bl0 := Nat.lt_of_lt_of_le bl0 hb.size
            clear hb
            go_wp2_with fail
            obtain ⟨w3, hW0⟩ : ∃ W, W = (w2.alloc (.cells #[.int .i64 17, .int .i64 a0, .int .i64 a1, .int .i64 0, .int .i64 0, .int .i64 0, .int .i64 0, .string B] 29)) := ⟨_, rfl⟩
            have hb : Below w2.heap.size w2 w3 := by rw [hW0]; go_grown
            have bl1 : w2.heap.size < w3.heap.size := by rw [hW0]; go_size
            have hk1 : Blk w3 (w2.heap.size) 29 [.int .i64 17, .int .i64 a0, .int .i64 a1, .int .i64 0, .int .i64 0, .int .i64 0, .int .i64 0, .string B] := by rw [hW0]; exact Blk.new _ _ _
            rw [← hW0]
            clear hW0
            have k3 := ext_step k2 (by omega) hb
            have p3 := hb.size
            replace hk0 := hk0.ext hb
            have bl0 := Nat.lt_of_lt_of_le bl0 hb.size
            clear hb
            refine (hbs _).mono ?_
            rintro e w4 ⟨rfl, hb⟩
            have k4 : Below w.heap.size w w4 := ext_step k3 (by omega) hb
            have p4 := hb.size
            replace hk0 := hk0.ext hb
            replace hk1 := hk1.ext hb
            have bl0 := Nat.lt_of_lt_of_le bl0 hb.size
            have bl1 := Nat.lt_of_lt_of_le bl1 hb.size
            clear hb
            clear  hk1
            have bx0_0 := hk0.at_ 0 _ rfl
            have fz0_0 := hk0.frozen 0
            have bx0_1 := hk0.at_ 1 _ rfl
            have fz0_1 := hk0.frozen 1
            have bx0_2 := hk0.at_ 2 _ rfl
            have fz0_2 := hk0.frozen 2
            have bx0_3 := hk0.at_ 3 _ rfl
            have fz0_3 := hk0.frozen 3
            have bx0_4 := hk0.at_ 4 _ rfl
            have fz0_4 := hk0.frozen 4
            have bx0_5 := hk0.at_ 5 _ rfl
            have fz0_5 := hk0.frozen 5
            have bx0_6 := hk0.at_ 6 _ rfl
            have fz0_6 := hk0.frozen 6
            have bx0_7 := hk0.at_ 7 _ rfl
            have fz0_7 := hk0.frozen 7
            go_wp2_with fail
            have hcc := ChgA.refl (w.heap.size) w4
            obtain ⟨w5_0, hW0⟩ : ∃ W, W = w4.setCell ⟨w.heap.size, 0, none⟩ (.int .i64 0) := ⟨_, rfl⟩
            replace hcc : ChgA (w.heap.size) w4 w5_0 := by rw [hW0]; exact hcc.set _ _
            replace hk0 : Blk w5_0 (w.heap.size) 29 [.int .i64 0, .int .i64 0, .int .i64 0, .int .i64 0, .int .i64 0, .int .i64 0, .int .i64 0, .string ⟨#[]⟩] := by rw [hW0]; exact hk0.set_ 0 _
            rw [← hW0]
            clear hW0
            obtain ⟨w5_1, hW0⟩ : ∃ W, W = w5_0.setCell ⟨w.heap.size, 1, none⟩ (.int .i64 0) := ⟨_, rfl⟩
            replace hcc : ChgA (w.heap.size) w4 w5_1 := by rw [hW0]; exact hcc.set _ _
            replace hk0 : Blk w5_1 (w.heap.size) 29 [.int .i64 0, .int .i64 0, .int .i64 0, .int .i64 0, .int .i64 0, .int .i64 0, .int .i64 0, .string ⟨#[]⟩] := by rw [hW0]; exact hk0.set_ 1 _
            rw [← hW0]
            clear hW0
            obtain ⟨w5_2, hW0⟩ : ∃ W, W = w5_1.setCell ⟨w.heap.size, 2, none⟩ (.int .i64 0) := ⟨_, rfl⟩
            replace hcc : ChgA (w.heap.size) w4 w5_2 := by rw [hW0]; exact hcc.set _ _
            replace hk0 : Blk w5_2 (w.heap.size) 29 [.int .i64 0, .int .i64 0, .int .i64 0, .int .i64 0, .int .i64 0, .int .i64 0, .int .i64 0, .string ⟨#[]⟩] := by rw [hW0]; exact hk0.set_ 2 _
            rw [← hW0]
            clear hW0
            obtain ⟨w5_3, hW0⟩ : ∃ W, W = w5_2.setCell ⟨w.heap.size, 3, none⟩ (.int .i64 0) := ⟨_, rfl⟩
            replace hcc : ChgA (w.heap.size) w4 w5_3 := by rw [hW0]; exact hcc.set _ _
            replace hk0 : Blk w5_3 (w.heap.size) 29 [.int .i64 0, .int .i64 0, .int .i64 0, .int .i64 0, .int .i64 0, .int .i64 0, .int .i64 0, .string ⟨#[]⟩] := by rw [hW0]; exact hk0.set_ 3 _
            rw [← hW0]
            clear hW0
            obtain ⟨w5_4, hW0⟩ : ∃ W, W = w5_3.setCell ⟨w.heap.size, 4, none⟩ (.int .i64 0) := ⟨_, rfl⟩
            replace hcc : ChgA (w.heap.size) w4 w5_4 := by rw [hW0]; exact hcc.set _ _
            replace hk0 : Blk w5_4 (w.heap.size) 29 [.int .i64 0, .int .i64 0, .int .i64 0, .int .i64 0, .int .i64 0, .int .i64 0, .int .i64 0, .string ⟨#[]⟩] := by rw [hW0]; exact hk0.set_ 4 _
            rw [← hW0]
            clear hW0
            obtain ⟨w5_5, hW0⟩ : ∃ W, W = w5_4.setCell ⟨w.heap.size, 5, none⟩ (.int .i64 0) := ⟨_, rfl⟩
            replace hcc : ChgA (w.heap.size) w4 w5_5 := by rw [hW0]; exact hcc.set _ _
            replace hk0 : Blk w5_5 (w.heap.size) 29 [.int .i64 0, .int .i64 0, .int .i64 0, .int .i64 0, .int .i64 0, .int .i64 0, .int .i64 0, .string ⟨#[]⟩] := by rw [hW0]; exact hk0.set_ 5 _
            rw [← hW0]
            clear hW0
            obtain ⟨w5_6, hW0⟩ : ∃ W, W = w5_5.setCell ⟨w.heap.size, 6, none⟩ (.int .i64 0) := ⟨_, rfl⟩
            replace hcc : ChgA (w.heap.size) w4 w5_6 := by rw [hW0]; exact hcc.set _ _
            replace hk0 : Blk w5_6 (w.heap.size) 29 [.int .i64 0, .int .i64 0, .int .i64 0, .int .i64 0, .int .i64 0, .int .i64 0, .int .i64 0, .string ⟨#[]⟩] := by rw [hW0]; exact hk0.set_ 6 _
            rw [← hW0]
            clear hW0
            obtain ⟨w5, hW0⟩ : ∃ W, W = w5_6.setCell ⟨w.heap.size, 7, none⟩ (.string ⟨#[]⟩) := ⟨_, rfl⟩
            replace hcc : ChgA (w.heap.size) w4 w5 := by rw [hW0]; exact hcc.set _ _
            replace hk0 : Blk w5 (w.heap.size) 29 [.int .i64 0, .int .i64 0, .int .i64 0, .int .i64 0, .int .i64 0, .int .i64 0, .int .i64 0, .string ⟨#[]⟩] := by rw [hW0]; exact hk0.set_ 7 _
            rw [← hW0]
            clear hW0
            have hc := hcc
            have k5 := hc.below (by omega) k4
            have p5 := hc.size
            replace bl0 := Nat.lt_of_lt_of_le bl0 (Nat.le_of_eq p5.symm)
            replace bl1 := Nat.lt_of_lt_of_le bl1 (Nat.le_of_eq p5.symm)
            clear hc hcc
            clear bx0_0 fz0_0 bx0_1 fz0_1 bx0_2 fz0_2 bx0_3 fz0_3 bx0_4 fz0_4 bx0_5 fz0_5 bx0_6 fz0_6 bx0_7 fz0_7
            have bx0_0 := hk0.at_ 0 _ rfl
            have bx0_1 := hk0.at_ 1 _ rfl
            have bx0_2 := hk0.at_ 2 _ rfl
            have bx0_3 := hk0.at_ 3 _ rfl
            have bx0_4 := hk0.at_ 4 _ rfl
            have bx0_5 := hk0.at_ 5 _ rfl
            have bx0_6 := hk0.at_ 6 _ rfl
            have bx0_7 := hk0.at_ 7 _ rfl
            refine bodyPost_ret (v := .tuple #[.agg #[.int .i64 0, .int .i64 0, .int .i64 0, .int .i64 0, .int .i64 0, .int .i64 0, .int .i64 0, .string ⟨#[]⟩], .bool false]) (by simp [results, Try.results125, go_sem, bx0_0, bx0_1, bx0_2, bx0_3, bx0_4, bx0_5, bx0_6, bx0_7]) rfl ?_
            exact ⟨rfl, k5⟩
          · have hok0 : okR si di 17 s = true := by rw [okR, hcond, d1, d2, d3, d4, d5, g0, g1, hsg, hP, hc]; rfl
            rw [hok0]
            simp only [sgI_yes hok0, sgT_yes hok0]
            clear hcond hsg hok0 hP d1 d2 d3 d4 d5 g0 g1
            go_enter Try.func125, Try.ntmps125
            go_wp2_with fail
            have k0 : Below w.heap.size w (w.alloc (.cells #[.int .i64 0, .int .i64 0, .int .i64 0, .int .i64 0, .int .i64 0, .int .i64 0, .int .i64 0, .string ⟨#[]⟩] 29)) := by go_grown
            have bl0 : w.heap.size < (w.alloc (.cells #[.int .i64 0, .int .i64 0, .int .i64 0, .int .i64 0, .int .i64 0, .int .i64 0, .int .i64 0, .string ⟨#[]⟩] 29)).heap.size := by go_size
            have hk0 : Blk (w.alloc (.cells #[.int .i64 0, .int .i64 0, .int .i64 0, .int .i64 0, .int .i64 0, .int .i64 0, .int .i64 0, .string ⟨#[]⟩] 29)) (w.heap.size) 29 [.int .i64 0, .int .i64 0, .int .i64 0, .int .i64 0, .int .i64 0, .int .i64 0, .int .i64 0, .string ⟨#[]⟩] := by simpa using Blk.new w 29 [.int .i64 0, .int .i64 0, .int .i64 0, .int .i64 0, .int .i64 0, .int .i64 0, .int .i64 0, .string ⟨#[]⟩]
            have p0 := k0.size
            generalize hW0 : (w.alloc (.cells #[.int .i64 0, .int .i64 0, .int .i64 0, .int .i64 0, .int .i64 0, .int .i64 0, .int .i64 0, .string ⟨#[]⟩] 29)) = w0 at *
            clear hW0
            refine (ha _).mono ?_
            rintro e w1 ⟨rfl, hb⟩
            have k1 : Below w.heap.size w w1 := ext_step k0 (by omega) hb
            have p1 := hb.size
            replace hk0 := hk0.ext hb
            have bl0 := Nat.lt_of_lt_of_le bl0 hb.size
            clear hb
            go_wp2_with fail
            refine (hc2 _).mono ?_
            rintro e w2 ⟨rfl, hb⟩
            have k2 : Below w.heap.size w w2 := ext_step k1 (by omega) hb
            have p2 := hb.size
            replace hk0 := hk0.ext hb
            have bl0 := Nat.lt_of_lt_of_le bl0 hb.size
            clear hb
            go_wp2_with fail
            obtain ⟨w3, hW0⟩ : ∃ W, W = (w2.alloc (.cells #[.int .i64 17, .int .i64 a0, .int .i64 a1, .int .i64 0, .int .i64 0, .int .i64 0, .int .i64 0, .string B] 29)) := ⟨_, rfl⟩
            have hb : Below w2.heap.size w2 w3 := by rw [hW0]; go_grown
            have bl1 : w2.heap.size < w3.heap.size := by rw [hW0]; go_size
            have hk1 : Blk w3 (w2.heap.size) 29 [.int .i64 17, .int .i64 a0, .int .i64 a1, .int .i64 0, .int .i64 0, .int .i64 0, .int .i64 0, .string B] := by rw [hW0]; exact Blk.new _ _ _
            rw [← hW0]
            clear hW0
            have k3 := ext_step k2 (by omega) hb
            have p3 := hb.size
            replace hk0 := hk0.ext hb
            have bl0 := Nat.lt_of_lt_of_le bl0 hb.size
            clear hb
            refine (hbs _).mono ?_
            rintro e w4 ⟨rfl, hb⟩
            have k4 : Below w.heap.size w w4 := ext_step k3 (by omega) hb
            have p4 := hb.size
            replace hk0 := hk0.ext hb
            replace hk1 := hk1.ext hb
            have bl0 := Nat.lt_of_lt_of_le bl0 hb.size
            have bl1 := Nat.lt_of_lt_of_le bl1 hb.size
            clear hb
            have bx1_0 := hk1.at_ 0 _ rfl
            have bx1_1 := hk1.at_ 1 _ rfl
            have bx1_2 := hk1.at_ 2 _ rfl
            have bx1_3 := hk1.at_ 3 _ rfl
            have bx1_4 := hk1.at_ 4 _ rfl
            have bx1_5 := hk1.at_ 5 _ rfl
            have bx1_6 := hk1.at_ 6 _ rfl
            have bx1_7 := hk1.at_ 7 _ rfl
            have bx0_0 := hk0.at_ 0 _ rfl
            have fz0_0 := hk0.frozen 0
            have bx0_1 := hk0.at_ 1 _ rfl
            have fz0_1 := hk0.frozen 1
            have bx0_2 := hk0.at_ 2 _ rfl
            have fz0_2 := hk0.frozen 2
            have bx0_3 := hk0.at_ 3 _ rfl
            have fz0_3 := hk0.frozen 3
            have bx0_4 := hk0.at_ 4 _ rfl
            have fz0_4 := hk0.frozen 4
            have bx0_5 := hk0.at_ 5 _ rfl
            have fz0_5 := hk0.frozen 5
            have bx0_6 := hk0.at_ 6 _ rfl
            have fz0_6 := hk0.frozen 6
            have bx0_7 := hk0.at_ 7 _ rfl
            have fz0_7 := hk0.frozen 7
            go_wp2_with fail
            clear bx1_0 bx1_1 bx1_2 bx1_3 bx1_4 bx1_5 bx1_6 bx1_7 hk1
            have hcc := ChgA.refl (w.heap.size) w4
            obtain ⟨w5_0, hW0⟩ : ∃ W, W = w4.setCell ⟨w.heap.size, 0, none⟩ (.int .i64 17) := ⟨_, rfl⟩
            replace hcc : ChgA (w.heap.size) w4 w5_0 := by rw [hW0]; exact hcc.set _ _
            replace hk0 : Blk w5_0 (w.heap.size) 29 [.int .i64 17, .int .i64 0, .int .i64 0, .int .i64 0, .int .i64 0, .int .i64 0, .int .i64 0, .string ⟨#[]⟩] := by rw [hW0]; exact hk0.set_ 0 _
            rw [← hW0]
            clear hW0
            obtain ⟨w5_1, hW0⟩ : ∃ W, W = w5_0.setCell ⟨w.heap.size, 1, none⟩ (.int .i64 a0) := ⟨_, rfl⟩
            replace hcc : ChgA (w.heap.size) w4 w5_1 := by rw [hW0]; exact hcc.set _ _
            replace hk0 : Blk w5_1 (w.heap.size) 29 [.int .i64 17, .int .i64 a0, .int .i64 0, .int .i64 0, .int .i64 0, .int .i64 0, .int .i64 0, .string ⟨#[]⟩] := by rw [hW0]; exact hk0.set_ 1 _
            rw [← hW0]
            clear hW0
            obtain ⟨w5_2, hW0⟩ : ∃ W, W = w5_1.setCell ⟨w.heap.size, 2, none⟩ (.int .i64 a1) := ⟨_, rfl⟩
            replace hcc : ChgA (w.heap.size) w4 w5_2 := by rw [hW0]; exact hcc.set _ _
            replace hk0 : Blk w5_2 (w.heap.size) 29 [.int .i64 17, .int .i64 a0, .int .i64 a1, .int .i64 0, .int .i64 0, .int .i64 0, .int .i64 0, .string ⟨#[]⟩] := by rw [hW0]; exact hk0.set_ 2 _
            rw [← hW0]
            clear hW0
            obtain ⟨w5_3, hW0⟩ : ∃ W, W = w5_2.setCell ⟨w.heap.size, 3, none⟩ (.int .i64 0) := ⟨_, rfl⟩
            replace hcc : ChgA (w.heap.size) w4 w5_3 := by rw [hW0]; exact hcc.set _ _
            replace hk0 : Blk w5_3 (w.heap.size) 29 [.int .i64 17, .int .i64 a0, .int .i64 a1, .int .i64 0, .int .i64 0, .int .i64 0, .int .i64 0, .string ⟨#[]⟩] := by rw [hW0]; exact hk0.set_ 3 _
            rw [← hW0]
            clear hW0
            obtain ⟨w5_4, hW0⟩ : ∃ W, W = w5_3.setCell ⟨w.heap.size, 4, none⟩ (.int .i64 0) := ⟨_, rfl⟩
            replace hcc : ChgA (w.heap.size) w4 w5_4 := by rw [hW0]; exact hcc.set _ _
            replace hk0 : Blk w5_4 (w.heap.size) 29 [.int .i64 17, .int .i64 a0, .int .i64 a1, .int .i64 0, .int .i64 0, .int .i64 0, .int .i64 0, .string ⟨#[]⟩] := by rw [hW0]; exact hk0.set_ 4 _
            rw [← hW0]
            clear hW0
            obtain ⟨w5_5, hW0⟩ : ∃ W, W = w5_4.setCell ⟨w.heap.size, 5, none⟩ (.int .i64 0) := ⟨_, rfl⟩
            replace hcc : ChgA (w.heap.size) w4 w5_5 := by rw [hW0]; exact hcc.set _ _
            replace hk0 : Blk w5_5 (w.heap.size) 29 [.int .i64 17, .int .i64 a0, .int .i64 a1, .int .i64 0, .int .i64 0, .int .i64 0, .int .i64 0, .string ⟨#[]⟩] := by rw [hW0]; exact hk0.set_ 5 _
            rw [← hW0]
            clear hW0
            obtain ⟨w5_6, hW0⟩ : ∃ W, W = w5_5.setCell ⟨w.heap.size, 6, none⟩ (.int .i64 0) := ⟨_, rfl⟩
            replace hcc : ChgA (w.heap.size) w4 w5_6 := by rw [hW0]; exact hcc.set _ _
            replace hk0 : Blk w5_6 (w.heap.size) 29 [.int .i64 17, .int .i64 a0, .int .i64 a1, .int .i64 0, .int .i64 0, .int .i64 0, .int .i64 0, .string ⟨#[]⟩] := by rw [hW0]; exact hk0.set_ 6 _
            rw [← hW0]
            clear hW0
            obtain ⟨w5, hW0⟩ : ∃ W, W = w5_6.setCell ⟨w.heap.size, 7, none⟩ (.string B) := ⟨_, rfl⟩
            replace hcc : ChgA (w.heap.size) w4 w5 := by rw [hW0]; exact hcc.set _ _
            replace hk0 : Blk w5 (w.heap.size) 29 [.int .i64 17, .int .i64 a0, .int .i64 a1, .int .i64 0, .int .i64 0, .int .i64 0, .int .i64 0, .string B] := by rw [hW0]; exact hk0.set_ 7 _
            rw [← hW0]
            clear hW0
            have hc := hcc
            have k5 := hc.below (by omega) k4
            have p5 := hc.size
            replace bl0 := Nat.lt_of_lt_of_le bl0 (Nat.le_of_eq p5.symm)
            replace bl1 := Nat.lt_of_lt_of_le bl1 (Nat.le_of_eq p5.symm)
            clear hc hcc
            clear bx0_0 fz0_0 bx0_1 fz0_1 bx0_2 fz0_2 bx0_3 fz0_3 bx0_4 fz0_4 bx0_5 fz0_5 bx0_6 fz0_6 bx0_7 fz0_7
            have bx0_0 := hk0.at_ 0 _ rfl
            have bx0_1 := hk0.at_ 1 _ rfl
            have bx0_2 := hk0.at_ 2 _ rfl
            have bx0_3 := hk0.at_ 3 _ rfl
            have bx0_4 := hk0.at_ 4 _ rfl
            have bx0_5 := hk0.at_ 5 _ rfl
            have bx0_6 := hk0.at_ 6 _ rfl
            have bx0_7 := hk0.at_ 7 _ rfl
            refine bodyPost_ret (v := .tuple #[.agg #[.int .i64 17, .int .i64 a0, .int .i64 a1, .int .i64 0, .int .i64 0, .int .i64 0, .int .i64 0, .string B], .bool true]) (by simp [results, Try.results125, go_sem, bx0_0, bx0_1, bx0_2, bx0_3, bx0_4, bx0_5, bx0_6, bx0_7]) rfl ?_
            exact ⟨rfl, k5⟩
      · have l8 : ¬ (8 : Int) ≤ (s.size : Int) := by omega
        have hok0 : okR si di 17 s = false := by simp [okR, tcpB, udpB, h8_]
        rw [hok0]
        simp only [sgI_no hok0, sgT_no hok0]
        clear hok0
        go_enter Try.func125, Try.ntmps125
        go_wp2_with fail
        have k0 : Below w.heap.size w (w.alloc (.cells #[.int .i64 0, .int .i64 0, .int .i64 0, .int .i64 0, .int .i64 0, .int .i64 0, .int .i64 0, .string ⟨#[]⟩] 29)) := by go_grown
        have bl0 : w.heap.size < (w.alloc (.cells #[.int .i64 0, .int .i64 0, .int .i64 0, .int .i64 0, .int .i64 0, .int .i64 0, .int .i64 0, .string ⟨#[]⟩] 29)).heap.size := by go_size
        have hk0 : Blk (w.alloc (.cells #[.int .i64 0, .int .i64 0, .int .i64 0, .int .i64 0, .int .i64 0, .int .i64 0, .int .i64 0, .string ⟨#[]⟩] 29)) (w.heap.size) 29 [.int .i64 0, .int .i64 0, .int .i64 0, .int .i64 0, .int .i64 0, .int .i64 0, .int .i64 0, .string ⟨#[]⟩] := by simpa using Blk.new w 29 [.int .i64 0, .int .i64 0, .int .i64 0, .int .i64 0, .int .i64 0, .int .i64 0, .int .i64 0, .string ⟨#[]⟩]
        have p0 := k0.size
        generalize hW0 : (w.alloc (.cells #[.int .i64 0, .int .i64 0, .int .i64 0, .int .i64 0, .int .i64 0, .int .i64 0, .int .i64 0, .string ⟨#[]⟩] 29)) = w0 at *
        clear hW0
        refine (ha _).mono ?_
        rintro e w1 ⟨rfl, hb⟩
        have k1 : Below w.heap.size w w1 := ext_step k0 (by omega) hb
        have p1 := hb.size
        replace hk0 := hk0.ext hb
        have bl0 := Nat.lt_of_lt_of_le bl0 hb.size
        clear hb
        go_wp2_with fail
        refine (hc2 _).mono ?_
        rintro e w2 ⟨rfl, hb⟩
        have k2 : Below w.heap.size w w2 := ext_step k1 (by omega) hb
        have p2 := hb.size
        replace hk0 := hk0.ext hb
        have bl0 := Nat.lt_of_lt_of_le bl0 hb.size
        clear hb
        go_upto_region 2 with fail
        obtain ⟨w3, hW0⟩ : ∃ W, W = (w2.alloc (.cells #[.int .i64 17, .int .i64 a0, .int .i64 a1, .int .i64 0, .int .i64 0, .int .i64 0, .int .i64 0, .string ⟨#[]⟩] 29)) := ⟨_, rfl⟩
        have hb : Below w2.heap.size w2 w3 := by rw [hW0]; go_grown
        have bl1 : w2.heap.size < w3.heap.size := by rw [hW0]; go_size
        have hk1 : Blk w3 (w2.heap.size) 29 [.int .i64 17, .int .i64 a0, .int .i64 a1, .int .i64 0, .int .i64 0, .int .i64 0, .int .i64 0, .string ⟨#[]⟩] := by rw [hW0]; exact Blk.new _ _ _
        rw [← hW0]
        clear hW0
        have k3 := ext_step k2 (by omega) hb
        have p3 := hb.size
        replace hk0 := hk0.ext hb
        have bl0 := Nat.lt_of_lt_of_le bl0 hb.size
        clear hb
        clear  hk1
        have bx0_0 := hk0.at_ 0 _ rfl
        have fz0_0 := hk0.frozen 0
        have bx0_1 := hk0.at_ 1 _ rfl
        have fz0_1 := hk0.frozen 1
        have bx0_2 := hk0.at_ 2 _ rfl
        have fz0_2 := hk0.frozen 2
        have bx0_3 := hk0.at_ 3 _ rfl
        have fz0_3 := hk0.frozen 3
        have bx0_4 := hk0.at_ 4 _ rfl
        have fz0_4 := hk0.frozen 4
        have bx0_5 := hk0.at_ 5 _ rfl
        have fz0_5 := hk0.frozen 5
        have bx0_6 := hk0.at_ 6 _ rfl
        have fz0_6 := hk0.frozen 6
        have bx0_7 := hk0.at_ 7 _ rfl
        have fz0_7 := hk0.frozen 7
        go_wp2_with fail
        have hcc := ChgA.refl (w.heap.size) w3
        obtain ⟨w4_0, hW0⟩ : ∃ W, W = w3.setCell ⟨w.heap.size, 0, none⟩ (.int .i64 0) := ⟨_, rfl⟩
        replace hcc : ChgA (w.heap.size) w3 w4_0 := by rw [hW0]; exact hcc.set _ _
        replace hk0 : Blk w4_0 (w.heap.size) 29 [.int .i64 0, .int .i64 0, .int .i64 0, .int .i64 0, .int .i64 0, .int .i64 0, .int .i64 0, .string ⟨#[]⟩] := by rw [hW0]; exact hk0.set_ 0 _
        rw [← hW0]
        clear hW0
        obtain ⟨w4_1, hW0⟩ : ∃ W, W = w4_0.setCell ⟨w.heap.size, 1, none⟩ (.int .i64 0) := ⟨_, rfl⟩
        replace hcc : ChgA (w.heap.size) w3 w4_1 := by rw [hW0]; exact hcc.set _ _
        replace hk0 : Blk w4_1 (w.heap.size) 29 [.int .i64 0, .int .i64 0, .int .i64 0, .int .i64 0, .int .i64 0, .int .i64 0, .int .i64 0, .string ⟨#[]⟩] := by rw [hW0]; exact hk0.set_ 1 _
        rw [← hW0]
        clear hW0
        obtain ⟨w4_2, hW0⟩ : ∃ W, W = w4_1.setCell ⟨w.heap.size, 2, none⟩ (.int .i64 0) := ⟨_, rfl⟩
        replace hcc : ChgA (w.heap.size) w3 w4_2 := by rw [hW0]; exact hcc.set _ _
        replace hk0 : Blk w4_2 (w.heap.size) 29 [.int .i64 0, .int .i64 0, .int .i64 0, .int .i64 0, .int .i64 0, .int .i64 0, .int .i64 0, .string ⟨#[]⟩] := by rw [hW0]; exact hk0.set_ 2 _
        rw [← hW0]
        clear hW0
        obtain ⟨w4_3, hW0⟩ : ∃ W, W = w4_2.setCell ⟨w.heap.size, 3, none⟩ (.int .i64 0) := ⟨_, rfl⟩
        replace hcc : ChgA (w.heap.size) w3 w4_3 := by rw [hW0]; exact hcc.set _ _
        replace hk0 : Blk w4_3 (w.heap.size) 29 [.int .i64 0, .int .i64 0, .int .i64 0, .int .i64 0, .int .i64 0, .int .i64 0, .int .i64 0, .string ⟨#[]⟩] := by rw [hW0]; exact hk0.set_ 3 _
        rw [← hW0]
        clear hW0
        obtain ⟨w4_4, hW0⟩ : ∃ W, W = w4_3.setCell ⟨w.heap.size, 4, none⟩ (.int .i64 0) := ⟨_, rfl⟩
        replace hcc : ChgA (w.heap.size) w3 w4_4 := by rw [hW0]; exact hcc.set _ _
        replace hk0 : Blk w4_4 (w.heap.size) 29 [.int .i64 0, .int .i64 0, .int .i64 0, .int .i64 0, .int .i64 0, .int .i64 0, .int .i64 0, .string ⟨#[]⟩] := by rw [hW0]; exact hk0.set_ 4 _
        rw [← hW0]
        clear hW0
        obtain ⟨w4_5, hW0⟩ : ∃ W, W = w4_4.setCell ⟨w.heap.size, 5, none⟩ (.int .i64 0) := ⟨_, rfl⟩
        replace hcc : ChgA (w.heap.size) w3 w4_5 := by rw [hW0]; exact hcc.set _ _
        replace hk0 : Blk w4_5 (w.heap.size) 29 [.int .i64 0, .int .i64 0, .int .i64 0, .int .i64 0, .int .i64 0, .int .i64 0, .int .i64 0, .string ⟨#[]⟩] := by rw [hW0]; exact hk0.set_ 5 _
        rw [← hW0]
        clear hW0
        obtain ⟨w4_6, hW0⟩ : ∃ W, W = w4_5.setCell ⟨w.heap.size, 6, none⟩ (.int .i64 0) := ⟨_, rfl⟩
        replace hcc : ChgA (w.heap.size) w3 w4_6 := by rw [hW0]; exact hcc.set _ _
        replace hk0 : Blk w4_6 (w.heap.size) 29 [.int .i64 0, .int .i64 0, .int .i64 0, .int .i64 0, .int .i64 0, .int .i64 0, .int .i64 0, .string ⟨#[]⟩] := by rw [hW0]; exact hk0.set_ 6 _
        rw [← hW0]
        clear hW0
        obtain ⟨w4, hW0⟩ : ∃ W, W = w4_6.setCell ⟨w.heap.size, 7, none⟩ (.string ⟨#[]⟩) := ⟨_, rfl⟩
        replace hcc : ChgA (w.heap.size) w3 w4 := by rw [hW0]; exact hcc.set _ _
        replace hk0 : Blk w4 (w.heap.size) 29 [.int .i64 0, .int .i64 0, .int .i64 0, .int .i64 0, .int .i64 0, .int .i64 0, .int .i64 0, .string ⟨#[]⟩] := by rw [hW0]; exact hk0.set_ 7 _
        rw [← hW0]
        clear hW0
        have hc := hcc
        have k4 := hc.below (by omega) k3
        have p4 := hc.size
        replace bl0 := Nat.lt_of_lt_of_le bl0 (Nat.le_of_eq p4.symm)
        replace bl1 := Nat.lt_of_lt_of_le bl1 (Nat.le_of_eq p4.symm)
        clear hc hcc
        clear bx0_0 fz0_0 bx0_1 fz0_1 bx0_2 fz0_2 bx0_3 fz0_3 bx0_4 fz0_4 bx0_5 fz0_5 bx0_6 fz0_6 bx0_7 fz0_7
        have bx0_0 := hk0.at_ 0 _ rfl
        have bx0_1 := hk0.at_ 1 _ rfl
        have bx0_2 := hk0.at_ 2 _ rfl
        have bx0_3 := hk0.at_ 3 _ rfl
        have bx0_4 := hk0.at_ 4 _ rfl
        have bx0_5 := hk0.at_ 5 _ rfl
        have bx0_6 := hk0.at_ 6 _ rfl
        have bx0_7 := hk0.at_ 7 _ rfl
        refine bodyPost_ret (v := .tuple #[.agg #[.int .i64 0, .int .i64 0, .int .i64 0, .int .i64 0, .int .i64 0, .int .i64 0, .int .i64 0, .string ⟨#[]⟩], .bool false]) (by simp [results, Try.results125, go_sem, bx0_0, bx0_1, bx0_2, bx0_3, bx0_4, bx0_5, bx0_6, bx0_7]) rfl ?_
        exact ⟨rfl, k4⟩
    · have hok0 : okR si di kd s = false := by simp [okR, tcpB, udpB, h6, h17]
      rw [hok0]
      simp only [sgI_no hok0, sgT_no hok0]
      clear hok0
      go_enter Try.func125, Try.ntmps125
      go_wp2_with fail
      have k0 : Below w.heap.size w (w.alloc (.cells #[.int .i64 0, .int .i64 0, .int .i64 0, .int .i64 0, .int .i64 0, .int .i64 0, .int .i64 0, .string ⟨#[]⟩] 29)) := by go_grown
      have bl0 : w.heap.size < (w.alloc (.cells #[.int .i64 0, .int .i64 0, .int .i64 0, .int .i64 0, .int .i64 0, .int .i64 0, .int .i64 0, .string ⟨#[]⟩] 29)).heap.size := by go_size
      have hk0 : Blk (w.alloc (.cells #[.int .i64 0, .int .i64 0, .int .i64 0, .int .i64 0, .int .i64 0, .int .i64 0, .int .i64 0, .string ⟨#[]⟩] 29)) (w.heap.size) 29 [.int .i64 0, .int .i64 0, .int .i64 0, .int .i64 0, .int .i64 0, .int .i64 0, .int .i64 0, .string ⟨#[]⟩] := by simpa using Blk.new w 29 [.int .i64 0, .int .i64 0, .int .i64 0, .int .i64 0, .int .i64 0, .int .i64 0, .int .i64 0, .string ⟨#[]⟩]
      have p0 := k0.size
      generalize hW0 : (w.alloc (.cells #[.int .i64 0, .int .i64 0, .int .i64 0, .int .i64 0, .int .i64 0, .int .i64 0, .int .i64 0, .string ⟨#[]⟩] 29)) = w0 at *
      clear hW0
      refine (ha _).mono ?_
      rintro e w1 ⟨rfl, hb⟩
      have k1 : Below w.heap.size w w1 := ext_step k0 (by omega) hb
      have p1 := hb.size
      replace hk0 := hk0.ext hb
      have bl0 := Nat.lt_of_lt_of_le bl0 hb.size
      clear hb
      go_wp2_with fail
      refine (hc2 _).mono ?_
      rintro e w2 ⟨rfl, hb⟩
      have k2 : Below w.heap.size w w2 := ext_step k1 (by omega) hb
      have p2 := hb.size
      replace hk0 := hk0.ext hb
      have bl0 := Nat.lt_of_lt_of_le bl0 hb.size
      clear hb
      go_upto_region 2 with fail
      obtain ⟨w3, hW0⟩ : ∃ W, W = (w2.alloc (.cells #[.int .i64 kd, .int .i64 a0, .int .i64 a1, .int .i64 0, .int .i64 0, .int .i64 0, .int .i64 0, .string ⟨#[]⟩] 29)) := ⟨_, rfl⟩
      have hb : Below w2.heap.size w2 w3 := by rw [hW0]; go_grown
      have bl1 : w2.heap.size < w3.heap.size := by rw [hW0]; go_size
      have hk1 : Blk w3 (w2.heap.size) 29 [.int .i64 kd, .int .i64 a0, .int .i64 a1, .int .i64 0, .int .i64 0, .int .i64 0, .int .i64 0, .string ⟨#[]⟩] := by rw [hW0]; exact Blk.new _ _ _
      rw [← hW0]
      clear hW0
      have k3 := ext_step k2 (by omega) hb
      have p3 := hb.size
      replace hk0 := hk0.ext hb
      have bl0 := Nat.lt_of_lt_of_le bl0 hb.size
      clear hb
      clear  hk1
      have bx0_0 := hk0.at_ 0 _ rfl
      have fz0_0 := hk0.frozen 0
      have bx0_1 := hk0.at_ 1 _ rfl
      have fz0_1 := hk0.frozen 1
      have bx0_2 := hk0.at_ 2 _ rfl
      have fz0_2 := hk0.frozen 2
      have bx0_3 := hk0.at_ 3 _ rfl
      have fz0_3 := hk0.frozen 3
      have bx0_4 := hk0.at_ 4 _ rfl
      have fz0_4 := hk0.frozen 4
      have bx0_5 := hk0.at_ 5 _ rfl
      have fz0_5 := hk0.frozen 5
      have bx0_6 := hk0.at_ 6 _ rfl
      have fz0_6 := hk0.frozen 6
      have bx0_7 := hk0.at_ 7 _ rfl
      have fz0_7 := hk0.frozen 7
      go_wp2_with fail
      have hcc := ChgA.refl (w.heap.size) w3
      obtain ⟨w4_0, hW0⟩ : ∃ W, W = w3.setCell ⟨w.heap.size, 0, none⟩ (.int .i64 0) := ⟨_, rfl⟩
      replace hcc : ChgA (w.heap.size) w3 w4_0 := by rw [hW0]; exact hcc.set _ _
      replace hk0 : Blk w4_0 (w.heap.size) 29 [.int .i64 0, .int .i64 0, .int .i64 0, .int .i64 0, .int .i64 0, .int .i64 0, .int .i64 0, .string ⟨#[]⟩] := by rw [hW0]; exact hk0.set_ 0 _
      rw [← hW0]
      clear hW0
      obtain ⟨w4_1, hW0⟩ : ∃ W, W = w4_0.setCell ⟨w.heap.size, 1, none⟩ (.int .i64 0) := ⟨_, rfl⟩
      replace hcc : ChgA (w.heap.size) w3 w4_1 := by rw [hW0]; exact hcc.set _ _
      replace hk0 : Blk w4_1 (w.heap.size) 29 [.int .i64 0, .int .i64 0, .int .i64 0, .int .i64 0, .int .i64 0, .int .i64 0, .int .i64 0, .string ⟨#[]⟩] := by rw [hW0]; exact hk0.set_ 1 _
      rw [← hW0]
      clear hW0
      obtain ⟨w4_2, hW0⟩ : ∃ W, W = w4_1.setCell ⟨w.heap.size, 2, none⟩ (.int .i64 0) := ⟨_, rfl⟩
      replace hcc : ChgA (w.heap.size) w3 w4_2 := by rw [hW0]; exact hcc.set _ _
      replace hk0 : Blk w4_2 (w.heap.size) 29 [.int .i64 0, .int .i64 0, .int .i64 0, .int .i64 0, .int .i64 0, .int .i64 0, .int .i64 0, .string ⟨#[]⟩] := by rw [hW0]; exact hk0.set_ 2 _
      rw [← hW0]
      clear hW0
      obtain ⟨w4_3, hW0⟩ : ∃ W, W = w4_2.setCell ⟨w.heap.size, 3, none⟩ (.int .i64 0) := ⟨_, rfl⟩
      replace hcc : ChgA (w.heap.size) w3 w4_3 := by rw [hW0]; exact hcc.set _ _
      replace hk0 : Blk w4_3 (w.heap.size) 29 [.int .i64 0, .int .i64 0, .int .i64 0, .int .i64 0, .int .i64 0, .int .i64 0, .int .i64 0, .string ⟨#[]⟩] := by rw [hW0]; exact hk0.set_ 3 _
      rw [← hW0]
      clear hW0
      obtain ⟨w4_4, hW0⟩ : ∃ W, W = w4_3.setCell ⟨w.heap.size, 4, none⟩ (.int .i64 0) := ⟨_, rfl⟩
      replace hcc : ChgA (w.heap.size) w3 w4_4 := by rw [hW0]; exact hcc.set _ _
      replace hk0 : Blk w4_4 (w.heap.size) 29 [.int .i64 0, .int .i64 0, .int .i64 0, .int .i64 0, .int .i64 0, .int .i64 0, .int .i64 0, .string ⟨#[]⟩] := by rw [hW0]; exact hk0.set_ 4 _
      rw [← hW0]
      clear hW0
      obtain ⟨w4_5, hW0⟩ : ∃ W, W = w4_4.setCell ⟨w.heap.size, 5, none⟩ (.int .i64 0) := ⟨_, rfl⟩
      replace hcc : ChgA (w.heap.size) w3 w4_5 := by rw [hW0]; exact hcc.set _ _
      replace hk0 : Blk w4_5 (w.heap.size) 29 [.int .i64 0, .int .i64 0, .int .i64 0, .int .i64 0, .int .i64 0, .int .i64 0, .int .i64 0, .string ⟨#[]⟩] := by rw [hW0]; exact hk0.set_ 5 _
      rw [← hW0]
      clear hW0
      obtain ⟨w4_6, hW0⟩ : ∃ W, W = w4_5.setCell ⟨w.heap.size, 6, none⟩ (.int .i64 0) := ⟨_, rfl⟩
      replace hcc : ChgA (w.heap.size) w3 w4_6 := by rw [hW0]; exact hcc.set _ _
      replace hk0 : Blk w4_6 (w.heap.size) 29 [.int .i64 0, .int .i64 0, .int .i64 0, .int .i64 0, .int .i64 0, .int .i64 0, .int .i64 0, .string ⟨#[]⟩] := by rw [hW0]; exact hk0.set_ 6 _
      rw [← hW0]
      clear hW0
      obtain ⟨w4, hW0⟩ : ∃ W, W = w4_6.setCell ⟨w.heap.size, 7, none⟩ (.string ⟨#[]⟩) := ⟨_, rfl⟩
      replace hcc : ChgA (w.heap.size) w3 w4 := by rw [hW0]; exact hcc.set _ _
      replace hk0 : Blk w4 (w.heap.size) 29 [.int .i64 0, .int .i64 0, .int .i64 0, .int .i64 0, .int .i64 0, .int .i64 0, .int .i64 0, .string ⟨#[]⟩] := by rw [hW0]; exact hk0.set_ 7 _
      rw [← hW0]
      clear hW0
      have hc := hcc
      have k4 := hc.below (by omega) k3
      have p4 := hc.size
      replace bl0 := Nat.lt_of_lt_of_le bl0 (Nat.le_of_eq p4.symm)
      replace bl1 := Nat.lt_of_lt_of_le bl1 (Nat.le_of_eq p4.symm)
      clear hc hcc
      clear bx0_0 fz0_0 bx0_1 fz0_1 bx0_2 fz0_2 bx0_3 fz0_3 bx0_4 fz0_4 bx0_5 fz0_5 bx0_6 fz0_6 bx0_7 fz0_7
      have bx0_0 := hk0.at_ 0 _ rfl
      have bx0_1 := hk0.at_ 1 _ rfl
      have bx0_2 := hk0.at_ 2 _ rfl
      have bx0_3 := hk0.at_ 3 _ rfl
      have bx0_4 := hk0.at_ 4 _ rfl
      have bx0_5 := hk0.at_ 5 _ rfl
      have bx0_6 := hk0.at_ 6 _ rfl
      have bx0_7 := hk0.at_ 7 _ rfl
      refine bodyPost_ret (v := .tuple #[.agg #[.int .i64 0, .int .i64 0, .int .i64 0, .int .i64 0, .int .i64 0, .int .i64 0, .int .i64 0, .string ⟨#[]⟩], .bool false]) (by simp [results, Try.results125, go_sem, bx0_0, bx0_1, bx0_2, bx0_3, bx0_4, bx0_5, bx0_6, bx0_7]) rfl ?_
      exact ⟨rfl, k4⟩
end Go.Proofs.Ytifbfmafogmemaa
