/- Contracts of ParseIp: impl and spec. -/
import Derived.Test.YtifbfmafogmemaaPktP
namespace Go.Proofs.Ytifbfmafogmemaa
set_option linter.unusedSimpArgs false
set_option linter.unusedVariables false
open Go.RowKit Go.ChangeShapes Go.WideShapes
def bdP (s : ByteArray) : ByteArray := s.extract 20 (g16 s 2).toNat
/-- A datagram that can be read. -/
def okP (s : ByteArray) : Bool := (decide (20 ≤ s.size) && decide (20 ≤ g16 s 2) && decide (g16 s 2 ≤ s.size)) && (ipB (byt s 1) (g16 s 4) (byt s 8) (byt s 9) (g32 s 12) (g32 s 16) (bdP s) && ((ipS (byt s 1) (g16 s 4) (byt s 8) (byt s 9) (g32 s 12) (g32 s 16) (bdP s)).toList == (s.extract 0 (g16 s 2).toNat).toList))
def ipI (s : ByteArray) (v : Int) : Int := if okP s then v else 0
def ipT (s t : ByteArray) : ByteArray := if okP s then t else ByteArray.empty
theorem ipI_yes {s : ByteArray} (h : okP s = true) (v : Int) : ipI s v = v := by rw [ipI, if_pos h]
theorem ipI_no {s : ByteArray} (h : okP s = false) (v : Int) : ipI s v = 0 := by rw [ipI, if_neg (by rw [h]; decide)]
theorem ipT_yes {s : ByteArray} (h : okP s = true) (v : ByteArray) : ipT s v = v := by rw [ipT, if_pos h]
theorem ipT_no {s : ByteArray} (h : okP s = false) (v : ByteArray) : ipT s v = ByteArray.empty := by rw [ipT, if_neg (by rw [h]; decide)]
set_option maxRecDepth 100000 in
set_option maxHeartbeats 4000000 in
theorem implParseIp_c (s : ByteArray) (w : World) (hs : s.size ≤ 1048576) :
    Calls Try.prog 74 #[.string s] w fun e w' => e = .returned (.tuple #[.agg #[.int .i64 (ipI s (byt s 1)), .int .i64 (ipI s (g16 s 4)), .int .i64 (ipI s (byt s 8)), .int .i64 (ipI s (byt s 9)), .int .i64 (ipI s (g32 s 12)), .int .i64 (ipI s (g32 s 16)), .string (ipT s (bdP s))], .bool (okP s)]) ∧ Below w.heap.size w w' := by
  have hn := fun u => implGet16_c s 2 u hs ⟨by decide, by decide⟩
  have nb := g16_bd s 2
  by_cases h20 : 20 ≤ s.size
  · by_cases hlo : 20 ≤ g16 s 2
    · by_cases hhi : g16 s 2 ≤ (s.size : Int)
      · have z1 : (1 : Nat) < s.size := by omega
        have z8 : (8 : Nat) < s.size := by omega
        have z9 : (9 : Nat) < s.size := by omega
        have x1 := idxi (i := 1) (k := 1) rfl z1
        have x8 := idxi (i := 8) (k := 8) rfl z8
        have x9 := idxi (i := 9) (k := 9) rfl z9
        obtain ⟨y1, y2⟩ := byt_bd s 1
        obtain ⟨y3, y4⟩ := byt_bd s 8
        obtain ⟨y5, y6⟩ := byt_bd s 9
        obtain ⟨n, hnn⟩ : ∃ n, g16 s 2 = n := ⟨_, rfl⟩
        obtain ⟨B, hB⟩ : ∃ B, bdP s = B := ⟨_, rfl⟩
        have hB2 : s.extract 20 n.toNat = B := by rw [← hB, bdP, hnn]
        have hBs : B.size ≤ 1048576 := by rw [← hB2, ByteArray.size_extract]; omega
        have hcond : (decide (20 ≤ s.size) && decide (20 ≤ g16 s 2) && decide (g16 s 2 ≤ s.size)) = true := by rw [decide_eq_true h20, decide_eq_true hlo, decide_eq_true hhi]; rfl
        simp only [hnn] at hn hlo hhi nb
        have hbi := fun u => implBuildIp_c (byt s 1) (g16 s 4) (byt s 8) (byt s 9) (g32 s 12) (g32 s 16) B u hBs
        rw [hB]
        cases hip : ipB (byt s 1) (g16 s 4) (byt s 8) (byt s 9) (g32 s 12) (g32 s 16) B
        · have hok0 : okP s = false := by rw [okP, hcond, hB, hip]; rfl
          rw [hok0]
          simp only [hip, Bool.false_eq_true, if_false] at hbi
          clear hcond hip
          simp only [ipI_no hok0, ipT_no hok0]
          clear hok0
          go_enter Try.func74, Try.ntmps74
          go_wp2_with fail
          have k0 : Below w.heap.size w (w.alloc (.cells #[.int .i64 0, .int .i64 0, .int .i64 0, .int .i64 0, .int .i64 0, .int .i64 0, .string ⟨#[]⟩] 110)) := by go_grown
          have bl0 : w.heap.size < (w.alloc (.cells #[.int .i64 0, .int .i64 0, .int .i64 0, .int .i64 0, .int .i64 0, .int .i64 0, .string ⟨#[]⟩] 110)).heap.size := by go_size
          have hk0 : Blk (w.alloc (.cells #[.int .i64 0, .int .i64 0, .int .i64 0, .int .i64 0, .int .i64 0, .int .i64 0, .string ⟨#[]⟩] 110)) (w.heap.size) 110 [.int .i64 0, .int .i64 0, .int .i64 0, .int .i64 0, .int .i64 0, .int .i64 0, .string ⟨#[]⟩] := by simpa using Blk.new w 110 [.int .i64 0, .int .i64 0, .int .i64 0, .int .i64 0, .int .i64 0, .int .i64 0, .string ⟨#[]⟩]
          have p0 := k0.size
          generalize hW0 : (w.alloc (.cells #[.int .i64 0, .int .i64 0, .int .i64 0, .int .i64 0, .int .i64 0, .int .i64 0, .string ⟨#[]⟩] 110)) = w0 at *
          clear hW0
          refine (hn _).mono ?_
          rintro e w1 ⟨rfl, hb⟩
          have k1 : Below w.heap.size w w1 := ext_step k0 (by omega) hb
          have p1 := hb.size
          replace hk0 := hk0.ext hb
          have bl0 := Nat.lt_of_lt_of_le bl0 hb.size
          clear hb
          go_wp2_with fail
          have hBB : w.heap.size ≤ w1.heap.size := by omega
          refine wp_region_slotsS (w.heap.size) [(24, fun _ v => v = .string s), (25, fun _ v => v = .int .u8 (byt s 1)), (26, fun _ v => v = .int .i64 (byt s 1)), (27, fun _ v => v = .string s), (28, fun _ v => v = .int .i64 (g16 s 4)), (29, fun _ v => v = .string s), (30, fun _ v => v = .int .u8 (byt s 8)), (31, fun _ v => v = .int .i64 (byt s 8)), (32, fun _ v => v = .string s), (33, fun _ v => v = .int .u8 (byt s 9)), (34, fun _ v => v = .int .i64 (byt s 9)), (35, fun _ v => v = .string s), (36, fun _ v => v = .int .i64 (g32 s 12)), (37, fun _ v => v = .string s), (38, fun _ v => v = .int .i64 (g32 s 16)), (39, fun _ v => v = .string s), (40, fun _ v => v = .int .i64 n), (41, fun _ v => v = .string B), (42, fun _ v => v = .agg #[.int .i64 (byt s 1), .int .i64 (g16 s 4), .int .i64 (byt s 8), .int .i64 (byt s 9), .int .i64 (g32 s 12), .int .i64 (g32 s 16), .string B]), (5, BoxP w1.heap.size 110 7)] [⟨20, 5, fun _ => True, StoP w1.heap.size 110 [.int .i64 (byt s 1), .int .i64 (g16 s 4), .int .i64 (byt s 8), .int .i64 (byt s 9), .int .i64 (g32 s 12), .int .i64 (g32 s 16), .string B]⟩] (fun u => Blk u (w.heap.size) 110 [.int .i64 0, .int .i64 0, .int .i64 0, .int .i64 0, .int .i64 0, .int .i64 0, .string ⟨#[]⟩]) (by kernel_rfl) hBB (by kernel_rfl) (by kernel_rfl) (by kernel_rfl) (by kernel_rfl) ?_ ?_ ?_ ?_ ?_ ?_ ?_
          · intro p hp
            simp only [List.mem_cons, List.not_mem_nil, or_false] at hp
            rcases hp with rfl | rfl | rfl | rfl | rfl | rfl | rfl | rfl | rfl | rfl | rfl | rfl | rfl | rfl | rfl | rfl | rfl | rfl | rfl | rfl
            all_goals (intro u u' v hb hv; first | exact hv | exact BoxP.keep hv hb | exact RowP.keep hv hb)
          · intro s hs u u' hb
            simp only [List.mem_cons, List.not_mem_nil, or_false] at hs
            rcases hs with rfl
            all_goals (refine ⟨fun h => ?_, fun _ h => ?_⟩ <;> first | exact h | exact StoP.keep h hb | exact StoR.keep h hb | exact Blk.ext h hb | exact StaR.keep h hb)
          · intro s hs
            simp only [List.mem_cons, List.not_mem_nil, or_false] at hs
            rcases hs with rfl
            all_goals first | trivial
          · exact hk0
          · intro u u' hb hj
            have j0 := hj
            exact (j0.ext hb)
          · intro hGk hSk hJk
            refine allStep_cons (stepS_plain hGk hSk hBB hJk (by kernel_rfl) rfl ?_) ?_
            · intro a u hb hz hj hl hp K Q hK
              have e0 : a.tmps[0]?.getD undef = .string s := gd (hl 0 (by kernel_rfl))
              go_simp
              exact hK _ _ (Below.refl _ _) (by intro d hd; cases hd; exact rfl)
            refine allStep_cons (stepS_plain hGk hSk hBB hJk (by kernel_rfl) rfl ?_) ?_
            · intro a u hb hz hj hl hp K Q hK
              have e24 : a.tmps[24]?.getD undef = .string s := gd (hl 24 (by kernel_rfl))
              go_simp
              exact hK _ _ (Below.refl _ _) (by intro d hd; cases hd; exact rfl)
            refine allStep_cons (stepS_plain hGk hSk hBB hJk (by kernel_rfl) rfl ?_) ?_
            · intro a u hb hz hj hl hp K Q hK
              have e25 : a.tmps[25]?.getD undef = .int .u8 (byt s 1) := gd (hl 25 (by kernel_rfl))
              have ew : IntKind.i64.wrap (byt s 1) = byt s 1 := IntWalk.i64_in _ ⟨by omega, by omega⟩
              go_simp
              exact hK _ _ (Below.refl _ _) (by intro d hd; cases hd; exact rfl)
            refine allStep_cons (stepS_plain hGk hSk hBB hJk (by kernel_rfl) rfl ?_) ?_
            · intro a u hb hz hj hl hp K Q hK
              have e0 : a.tmps[0]?.getD undef = .string s := gd (hl 0 (by kernel_rfl))
              go_simp
              exact hK _ _ (Below.refl _ _) (by intro d hd; cases hd; exact rfl)
            refine allStep_cons (stepS_plain hGk hSk hBB hJk (by kernel_rfl) rfl ?_) ?_
            · intro a u hb hz hj hl hp K Q hK
              have e27 : a.tmps[27]?.getD undef = .string s := gd (hl 27 (by kernel_rfl))
              go_simp
              refine (implGet16_c s 4 _ hs ⟨by decide, by decide⟩).mono ?_
              rintro e u1 ⟨rfl, hb1⟩
              exact hK _ _ hb1 (by intro d hd; cases hd; exact rfl)
            refine allStep_cons (stepS_plain hGk hSk hBB hJk (by kernel_rfl) rfl ?_) ?_
            · intro a u hb hz hj hl hp K Q hK
              have e0 : a.tmps[0]?.getD undef = .string s := gd (hl 0 (by kernel_rfl))
              go_simp
              exact hK _ _ (Below.refl _ _) (by intro d hd; cases hd; exact rfl)
            refine allStep_cons (stepS_plain hGk hSk hBB hJk (by kernel_rfl) rfl ?_) ?_
            · intro a u hb hz hj hl hp K Q hK
              have e29 : a.tmps[29]?.getD undef = .string s := gd (hl 29 (by kernel_rfl))
              go_simp
              exact hK _ _ (Below.refl _ _) (by intro d hd; cases hd; exact rfl)
            refine allStep_cons (stepS_plain hGk hSk hBB hJk (by kernel_rfl) rfl ?_) ?_
            · intro a u hb hz hj hl hp K Q hK
              have e30 : a.tmps[30]?.getD undef = .int .u8 (byt s 8) := gd (hl 30 (by kernel_rfl))
              have ew : IntKind.i64.wrap (byt s 8) = byt s 8 := IntWalk.i64_in _ ⟨by omega, by omega⟩
              go_simp
              exact hK _ _ (Below.refl _ _) (by intro d hd; cases hd; exact rfl)
            refine allStep_cons (stepS_plain hGk hSk hBB hJk (by kernel_rfl) rfl ?_) ?_
            · intro a u hb hz hj hl hp K Q hK
              have e0 : a.tmps[0]?.getD undef = .string s := gd (hl 0 (by kernel_rfl))
              go_simp
              exact hK _ _ (Below.refl _ _) (by intro d hd; cases hd; exact rfl)
            refine allStep_cons (stepS_plain hGk hSk hBB hJk (by kernel_rfl) rfl ?_) ?_
            · intro a u hb hz hj hl hp K Q hK
              have e32 : a.tmps[32]?.getD undef = .string s := gd (hl 32 (by kernel_rfl))
              go_simp
              exact hK _ _ (Below.refl _ _) (by intro d hd; cases hd; exact rfl)
            refine allStep_cons (stepS_plain hGk hSk hBB hJk (by kernel_rfl) rfl ?_) ?_
            · intro a u hb hz hj hl hp K Q hK
              have e33 : a.tmps[33]?.getD undef = .int .u8 (byt s 9) := gd (hl 33 (by kernel_rfl))
              have ew : IntKind.i64.wrap (byt s 9) = byt s 9 := IntWalk.i64_in _ ⟨by omega, by omega⟩
              go_simp
              exact hK _ _ (Below.refl _ _) (by intro d hd; cases hd; exact rfl)
            refine allStep_cons (stepS_plain hGk hSk hBB hJk (by kernel_rfl) rfl ?_) ?_
            · intro a u hb hz hj hl hp K Q hK
              have e0 : a.tmps[0]?.getD undef = .string s := gd (hl 0 (by kernel_rfl))
              go_simp
              exact hK _ _ (Below.refl _ _) (by intro d hd; cases hd; exact rfl)
            refine allStep_cons (stepS_plain hGk hSk hBB hJk (by kernel_rfl) rfl ?_) ?_
            · intro a u hb hz hj hl hp K Q hK
              have e35 : a.tmps[35]?.getD undef = .string s := gd (hl 35 (by kernel_rfl))
              go_simp
              refine (implGet32_c s 12 _ hs ⟨by decide, by decide⟩).mono ?_
              rintro e u1 ⟨rfl, hb1⟩
              exact hK _ _ hb1 (by intro d hd; cases hd; exact rfl)
            refine allStep_cons (stepS_plain hGk hSk hBB hJk (by kernel_rfl) rfl ?_) ?_
            · intro a u hb hz hj hl hp K Q hK
              have e0 : a.tmps[0]?.getD undef = .string s := gd (hl 0 (by kernel_rfl))
              go_simp
              exact hK _ _ (Below.refl _ _) (by intro d hd; cases hd; exact rfl)
            refine allStep_cons (stepS_plain hGk hSk hBB hJk (by kernel_rfl) rfl ?_) ?_
            · intro a u hb hz hj hl hp K Q hK
              have e37 : a.tmps[37]?.getD undef = .string s := gd (hl 37 (by kernel_rfl))
              go_simp
              refine (implGet32_c s 16 _ hs ⟨by decide, by decide⟩).mono ?_
              rintro e u1 ⟨rfl, hb1⟩
              exact hK _ _ hb1 (by intro d hd; cases hd; exact rfl)
            refine allStep_cons (stepS_plain hGk hSk hBB hJk (by kernel_rfl) rfl ?_) ?_
            · intro a u hb hz hj hl hp K Q hK
              have e0 : a.tmps[0]?.getD undef = .string s := gd (hl 0 (by kernel_rfl))
              go_simp
              exact hK _ _ (Below.refl _ _) (by intro d hd; cases hd; exact rfl)
            refine allStep_cons (stepS_plain hGk hSk hBB hJk (by kernel_rfl) rfl ?_) ?_
            · intro a u hb hz hj hl hp K Q hK
              have e4 : a.tmps[4]?.getD undef = .int .i64 n := gd (hl 4 (by kernel_rfl))
              go_simp
              exact hK _ _ (Below.refl _ _) (by intro d hd; cases hd; exact rfl)
            refine allStep_cons (stepS_plain hGk hSk hBB hJk (by kernel_rfl) rfl ?_) ?_
            · intro a u hb hz hj hl hp K Q hK
              have e39 : a.tmps[39]?.getD undef = .string s := gd (hl 39 (by kernel_rfl))
              have e40 : a.tmps[40]?.getD undef = .int .i64 n := gd (hl 40 (by kernel_rfl))
              go_simp
              exact hK _ _ (Below.refl _ _) (by intro d hd; cases hd; exact rfl)
            refine allStep_cons (stepS_plain hGk hSk hBB hJk (by kernel_rfl) rfl ?_) ?_
            · intro a u hb hz hj hl hp K Q hK
              have e26 : a.tmps[26]?.getD undef = .int .i64 (byt s 1) := gd (hl 26 (by kernel_rfl))
              have e28 : a.tmps[28]?.getD undef = .int .i64 (g16 s 4) := gd (hl 28 (by kernel_rfl))
              have e31 : a.tmps[31]?.getD undef = .int .i64 (byt s 8) := gd (hl 31 (by kernel_rfl))
              have e34 : a.tmps[34]?.getD undef = .int .i64 (byt s 9) := gd (hl 34 (by kernel_rfl))
              have e36 : a.tmps[36]?.getD undef = .int .i64 (g32 s 12) := gd (hl 36 (by kernel_rfl))
              have e38 : a.tmps[38]?.getD undef = .int .i64 (g32 s 16) := gd (hl 38 (by kernel_rfl))
              have e41 : a.tmps[41]?.getD undef = .string B := gd (hl 41 (by kernel_rfl))
              go_simp
              exact hK _ _ (Below.refl _ _) (by intro d hd; cases hd; exact rfl)
            refine allStep_cons (stepS_plain hGk hSk hBB hJk (by kernel_rfl) rfl ?_) ?_
            · intro a u hb hz hj hl hp K Q hK
              go_simp
              exact hK _ _ (by go_grown) (by intro d hd; cases hd; exact BoxP.new _ _ [.int .i64 0, .int .i64 0, .int .i64 0, .int .i64 0, .int .i64 0, .int .i64 0, .string ⟨#[]⟩] (by omega) rfl)
            refine allStep_cons (stepS_store (Chg w1.heap.size 110) (fun _ _ hc hb => hc.below' (by omega) hb) (fun _ _ hc => hc.size) (hold_rel ?_) ?_ ?_ rfl rfl ?_) ?_
            · intro p hp
              simp only [List.mem_cons, List.not_mem_nil, or_false] at hp
              rcases hp with rfl | rfl | rfl | rfl | rfl | rfl | rfl | rfl | rfl | rfl | rfl | rfl | rfl | rfl | rfl | rfl | rfl | rfl | rfl | rfl
              all_goals (intro u u' v hb hv; first | exact hv | exact BoxP.chg hv hb | exact RowP.chg hv hb (by decide))
            · intro s hs hne u u' hb
              simp only [List.mem_cons, List.not_mem_nil, or_false] at hs
              rcases hs with rfl
              all_goals first | exact absurd (by rfl) hne | (refine ⟨fun h => ?_, fun _ h => ?_⟩ <;> first | exact h | exact StoP.chg h hb (by decide) | exact StoR.chg h hb (by decide) (by decide) | exact Blk.chgL h hb (by omega) | exact StaR.chgL h hb (by omega) (by decide))
            · intro u u' hb hj
              have j0 := hj
              exact (j0.chgL hb (by omega))
            · intro a u hb hz hj hl hp K Q hK
              obtain ⟨b, exb, hB, zs, hzl, hbk⟩ : BoxP w1.heap.size 110 7 u (a.tmps.getD 5 undef) := hl 5 (by kernel_rfl)
              have e5 := gd exb
              have e42 : a.tmps[42]?.getD undef = .agg #[.int .i64 (byt s 1), .int .i64 (g16 s 4), .int .i64 (byt s 8), .int .i64 (byt s 9), .int .i64 (g32 s 12), .int .i64 (g32 s 16), .string B] := gd (hl 42 (by kernel_rfl))
              obtain ⟨z0, z1, z2, z3, z4, z5, z6, rfl⟩ : ∃ z0 z1 z2 z3 z4 z5 z6, zs = [z0, z1, z2, z3, z4, z5, z6] := (by match zs, hzl with | [z0, z1, z2, z3, z4, z5, z6], _ => exact ⟨_, _, _, _, _, _, _, rfl⟩)
              have hlt := hbk.lt
              have g0 : u.cell? ⟨b, 0, none⟩ = some z0 := (hbk.cell 0).trans rfl
              have f0 := hbk.frozen 0
              have g1 : u.cell? ⟨b, 1, none⟩ = some z1 := (hbk.cell 1).trans rfl
              have f1 := hbk.frozen 1
              have g2 : u.cell? ⟨b, 2, none⟩ = some z2 := (hbk.cell 2).trans rfl
              have f2 := hbk.frozen 2
              have g3 : u.cell? ⟨b, 3, none⟩ = some z3 := (hbk.cell 3).trans rfl
              have f3 := hbk.frozen 3
              have g4 : u.cell? ⟨b, 4, none⟩ = some z4 := (hbk.cell 4).trans rfl
              have f4 := hbk.frozen 4
              have g5 : u.cell? ⟨b, 5, none⟩ = some z5 := (hbk.cell 5).trans rfl
              have f5 := hbk.frozen 5
              have g6 : u.cell? ⟨b, 6, none⟩ = some z6 := (hbk.cell 6).trans rfl
              have f6 := hbk.frozen 6
              go_simp
              refine hK undef _ ((((((((Chg.refl _ _ _).set hbk hB 0 _).set (hbk.set_ 0 _) hB 1 _).set ((hbk.set_ 0 _).set_ 1 _) hB 2 _).set (((hbk.set_ 0 _).set_ 1 _).set_ 2 _) hB 3 _).set ((((hbk.set_ 0 _).set_ 1 _).set_ 2 _).set_ 3 _) hB 4 _).set (((((hbk.set_ 0 _).set_ 1 _).set_ 2 _).set_ 3 _).set_ 4 _) hB 5 _).set ((((((hbk.set_ 0 _).set_ 1 _).set_ 2 _).set_ 3 _).set_ 4 _).set_ 5 _) hB 6 _) (fun s hs he => ?_)
              simp only [List.mem_cons, List.not_mem_nil, or_false] at hs
              rcases hs with rfl
              · exact ⟨b, exb, hB, (((((((hbk.set_ 0 _).set_ 1 _).set_ 2 _).set_ 3 _).set_ 4 _).set_ 5 _).set_ 6 _)⟩
            exact allStep_nil
          intro xT w2 hb hz hj hL hSt
          clear hk0
          have hk0 : (fun u => Blk u (w.heap.size) 110 [.int .i64 0, .int .i64 0, .int .i64 0, .int .i64 0, .int .i64 0, .int .i64 0, .string ⟨#[]⟩]) w2 := hj
          dsimp only at hk0
          obtain ⟨bk_1, fx5, lo1, hk1⟩ : StoP w1.heap.size 110 [.int .i64 (byt s 1), .int .i64 (g16 s 4), .int .i64 (byt s 8), .int .i64 (byt s 9), .int .i64 (g32 s 12), .int .i64 (g32 s 16), .string B] w2 (xT 5) := hSt _ (List.mem_of_getElem? (i := 0) rfl)
          simp only [List.map, putAll, fx5]
          have bl1 := hk1.lt
          have k2 : Below w.heap.size w w2 := k1.trans hb
          have p2 : w1.heap.size ≤ w2.heap.size := hb.size
          have bl0 := Nat.lt_of_lt_of_le bl0 hb.size
          clear hL hSt hb hz fx5
          have bx1_0 := hk1.at_ 0 _ rfl
          have bx1_1 := hk1.at_ 1 _ rfl
          have bx1_2 := hk1.at_ 2 _ rfl
          have bx1_3 := hk1.at_ 3 _ rfl
          have bx1_4 := hk1.at_ 4 _ rfl
          have bx1_5 := hk1.at_ 5 _ rfl
          have bx1_6 := hk1.at_ 6 _ rfl
          go_wp2_with fail
          refine (hbi _).mono ?_
          rintro e w3 ⟨rfl, hb⟩
          have k3 : Below w.heap.size w w3 := ext_step k2 (by omega) hb
          have p3 := hb.size
          replace hk0 := hk0.ext hb
          replace hk1 := hk1.ext hb
          clear bx1_0 bx1_1 bx1_2 bx1_3 bx1_4 bx1_5 bx1_6
          have bl0 := Nat.lt_of_lt_of_le bl0 hb.size
          have bl1 := Nat.lt_of_lt_of_le bl1 hb.size
          clear hb
          clear  hk1
          have bx0_0 := hk0.at_ 0 _ rfl
          have fz0_0 := hk0.frozen 0
          have bx0_1 := hk0.at_ 1 _ rfl
          have fz0_1 := hk0.frozen 1
          have bx0_2 := hk0.at_ 2 _ rfl
          have fz0_2 := hk0.frozen 2
          have bx0_3 := hk0.at_ 3 _ rfl
          have fz0_3 := hk0.frozen 3
          have bx0_4 := hk0.at_ 4 _ rfl
          have fz0_4 := hk0.frozen 4
          have bx0_5 := hk0.at_ 5 _ rfl
          have fz0_5 := hk0.frozen 5
          have bx0_6 := hk0.at_ 6 _ rfl
          have fz0_6 := hk0.frozen 6
          go_wp2_with fail
          have hcc := ChgA.refl (w.heap.size) w3
          obtain ⟨w4_0, hW0⟩ : ∃ W, W = w3.setCell ⟨w.heap.size, 0, none⟩ (.int .i64 0) := ⟨_, rfl⟩
          replace hcc : ChgA (w.heap.size) w3 w4_0 := by rw [hW0]; exact hcc.set _ _
          replace hk0 : Blk w4_0 (w.heap.size) 110 [.int .i64 0, .int .i64 0, .int .i64 0, .int .i64 0, .int .i64 0, .int .i64 0, .string ⟨#[]⟩] := by rw [hW0]; exact hk0.set_ 0 _
          rw [← hW0]
          clear hW0
          obtain ⟨w4_1, hW0⟩ : ∃ W, W = w4_0.setCell ⟨w.heap.size, 1, none⟩ (.int .i64 0) := ⟨_, rfl⟩
          replace hcc : ChgA (w.heap.size) w3 w4_1 := by rw [hW0]; exact hcc.set _ _
          replace hk0 : Blk w4_1 (w.heap.size) 110 [.int .i64 0, .int .i64 0, .int .i64 0, .int .i64 0, .int .i64 0, .int .i64 0, .string ⟨#[]⟩] := by rw [hW0]; exact hk0.set_ 1 _
          rw [← hW0]
          clear hW0
          obtain ⟨w4_2, hW0⟩ : ∃ W, W = w4_1.setCell ⟨w.heap.size, 2, none⟩ (.int .i64 0) := ⟨_, rfl⟩
          replace hcc : ChgA (w.heap.size) w3 w4_2 := by rw [hW0]; exact hcc.set _ _
          replace hk0 : Blk w4_2 (w.heap.size) 110 [.int .i64 0, .int .i64 0, .int .i64 0, .int .i64 0, .int .i64 0, .int .i64 0, .string ⟨#[]⟩] := by rw [hW0]; exact hk0.set_ 2 _
          rw [← hW0]
          clear hW0
          obtain ⟨w4_3, hW0⟩ : ∃ W, W = w4_2.setCell ⟨w.heap.size, 3, none⟩ (.int .i64 0) := ⟨_, rfl⟩
          replace hcc : ChgA (w.heap.size) w3 w4_3 := by rw [hW0]; exact hcc.set _ _
          replace hk0 : Blk w4_3 (w.heap.size) 110 [.int .i64 0, .int .i64 0, .int .i64 0, .int .i64 0, .int .i64 0, .int .i64 0, .string ⟨#[]⟩] := by rw [hW0]; exact hk0.set_ 3 _
          rw [← hW0]
          clear hW0
          obtain ⟨w4_4, hW0⟩ : ∃ W, W = w4_3.setCell ⟨w.heap.size, 4, none⟩ (.int .i64 0) := ⟨_, rfl⟩
          replace hcc : ChgA (w.heap.size) w3 w4_4 := by rw [hW0]; exact hcc.set _ _
          replace hk0 : Blk w4_4 (w.heap.size) 110 [.int .i64 0, .int .i64 0, .int .i64 0, .int .i64 0, .int .i64 0, .int .i64 0, .string ⟨#[]⟩] := by rw [hW0]; exact hk0.set_ 4 _
          rw [← hW0]
          clear hW0
          obtain ⟨w4_5, hW0⟩ : ∃ W, W = w4_4.setCell ⟨w.heap.size, 5, none⟩ (.int .i64 0) := ⟨_, rfl⟩
          replace hcc : ChgA (w.heap.size) w3 w4_5 := by rw [hW0]; exact hcc.set _ _
          replace hk0 : Blk w4_5 (w.heap.size) 110 [.int .i64 0, .int .i64 0, .int .i64 0, .int .i64 0, .int .i64 0, .int .i64 0, .string ⟨#[]⟩] := by rw [hW0]; exact hk0.set_ 5 _
          rw [← hW0]
          clear hW0
          obtain ⟨w4, hW0⟩ : ∃ W, W = w4_5.setCell ⟨w.heap.size, 6, none⟩ (.string ⟨#[]⟩) := ⟨_, rfl⟩
          replace hcc : ChgA (w.heap.size) w3 w4 := by rw [hW0]; exact hcc.set _ _
          replace hk0 : Blk w4 (w.heap.size) 110 [.int .i64 0, .int .i64 0, .int .i64 0, .int .i64 0, .int .i64 0, .int .i64 0, .string ⟨#[]⟩] := by rw [hW0]; exact hk0.set_ 6 _
          rw [← hW0]
          clear hW0
          have hc := hcc
          have k4 := hc.below (by omega) k3
          have p4 := hc.size
          replace bl0 := Nat.lt_of_lt_of_le bl0 (Nat.le_of_eq p4.symm)
          replace bl1 := Nat.lt_of_lt_of_le bl1 (Nat.le_of_eq p4.symm)
          clear hc hcc
          clear bx0_0 fz0_0 bx0_1 fz0_1 bx0_2 fz0_2 bx0_3 fz0_3 bx0_4 fz0_4 bx0_5 fz0_5 bx0_6 fz0_6
          have bx0_0 := hk0.at_ 0 _ rfl
          have bx0_1 := hk0.at_ 1 _ rfl
          have bx0_2 := hk0.at_ 2 _ rfl
          have bx0_3 := hk0.at_ 3 _ rfl
          have bx0_4 := hk0.at_ 4 _ rfl
          have bx0_5 := hk0.at_ 5 _ rfl
          have bx0_6 := hk0.at_ 6 _ rfl
          refine bodyPost_ret (v := .tuple #[.agg #[.int .i64 0, .int .i64 0, .int .i64 0, .int .i64 0, .int .i64 0, .int .i64 0, .string ⟨#[]⟩], .bool false]) (by simp [results, Try.results74, go_sem, bx0_0, bx0_1, bx0_2, bx0_3, bx0_4, bx0_5, bx0_6]) rfl ?_
          exact ⟨rfl, k4⟩
        · simp only [hip, if_true] at hbi
          obtain ⟨P, hP⟩ : ∃ P, ipS (byt s 1) (g16 s 4) (byt s 8) (byt s 9) (g32 s 12) (g32 s 16) B = P := ⟨_, rfl⟩
          simp only [hP] at hbi
          cases hc : P.toList == (s.extract 0 n.toNat).toList
          · have hok0 : okP s = false := by rw [okP, hcond, hB, hip, hP, hnn, hc]; rfl
            rw [hok0]
            clear hcond hip hP
            simp only [ipI_no hok0, ipT_no hok0]
            clear hok0
            go_enter Try.func74, Try.ntmps74
            go_wp2_with fail
            have k0 : Below w.heap.size w (w.alloc (.cells #[.int .i64 0, .int .i64 0, .int .i64 0, .int .i64 0, .int .i64 0, .int .i64 0, .string ⟨#[]⟩] 110)) := by go_grown
            have bl0 : w.heap.size < (w.alloc (.cells #[.int .i64 0, .int .i64 0, .int .i64 0, .int .i64 0, .int .i64 0, .int .i64 0, .string ⟨#[]⟩] 110)).heap.size := by go_size
            have hk0 : Blk (w.alloc (.cells #[.int .i64 0, .int .i64 0, .int .i64 0, .int .i64 0, .int .i64 0, .int .i64 0, .string ⟨#[]⟩] 110)) (w.heap.size) 110 [.int .i64 0, .int .i64 0, .int .i64 0, .int .i64 0, .int .i64 0, .int .i64 0, .string ⟨#[]⟩] := by simpa using Blk.new w 110 [.int .i64 0, .int .i64 0, .int .i64 0, .int .i64 0, .int .i64 0, .int .i64 0, .string ⟨#[]⟩]
            have p0 := k0.size
            generalize hW0 : (w.alloc (.cells #[.int .i64 0, .int .i64 0, .int .i64 0, .int .i64 0, .int .i64 0, .int .i64 0, .string ⟨#[]⟩] 110)) = w0 at *
            clear hW0
            refine (hn _).mono ?_
            rintro e w1 ⟨rfl, hb⟩
            have k1 : Below w.heap.size w w1 := ext_step k0 (by omega) hb
            have p1 := hb.size
            replace hk0 := hk0.ext hb
            have bl0 := Nat.lt_of_lt_of_le bl0 hb.size
            clear hb
            go_wp2_with fail
            have hBB : w.heap.size ≤ w1.heap.size := by omega
            refine wp_region_slotsS (w.heap.size) [(24, fun _ v => v = .string s), (25, fun _ v => v = .int .u8 (byt s 1)), (26, fun _ v => v = .int .i64 (byt s 1)), (27, fun _ v => v = .string s), (28, fun _ v => v = .int .i64 (g16 s 4)), (29, fun _ v => v = .string s), (30, fun _ v => v = .int .u8 (byt s 8)), (31, fun _ v => v = .int .i64 (byt s 8)), (32, fun _ v => v = .string s), (33, fun _ v => v = .int .u8 (byt s 9)), (34, fun _ v => v = .int .i64 (byt s 9)), (35, fun _ v => v = .string s), (36, fun _ v => v = .int .i64 (g32 s 12)), (37, fun _ v => v = .string s), (38, fun _ v => v = .int .i64 (g32 s 16)), (39, fun _ v => v = .string s), (40, fun _ v => v = .int .i64 n), (41, fun _ v => v = .string B), (42, fun _ v => v = .agg #[.int .i64 (byt s 1), .int .i64 (g16 s 4), .int .i64 (byt s 8), .int .i64 (byt s 9), .int .i64 (g32 s 12), .int .i64 (g32 s 16), .string B]), (5, BoxP w1.heap.size 110 7)] [⟨20, 5, fun _ => True, StoP w1.heap.size 110 [.int .i64 (byt s 1), .int .i64 (g16 s 4), .int .i64 (byt s 8), .int .i64 (byt s 9), .int .i64 (g32 s 12), .int .i64 (g32 s 16), .string B]⟩] (fun u => Blk u (w.heap.size) 110 [.int .i64 0, .int .i64 0, .int .i64 0, .int .i64 0, .int .i64 0, .int .i64 0, .string ⟨#[]⟩]) (by kernel_rfl) hBB (by kernel_rfl) (by kernel_rfl) (by kernel_rfl) (by kernel_rfl) ?_ ?_ ?_ ?_ ?_ ?_ ?_
            · intro p hp
              simp only [List.mem_cons, List.not_mem_nil, or_false] at hp
              rcases hp with rfl | rfl | rfl | rfl | rfl | rfl | rfl | rfl | rfl | rfl | rfl | rfl | rfl | rfl | rfl | rfl | rfl | rfl | rfl | rfl
              all_goals (intro u u' v hb hv; first | exact hv | exact BoxP.keep hv hb | exact RowP.keep hv hb)
            · intro s hs u u' hb
              simp only [List.mem_cons, List.not_mem_nil, or_false] at hs
              rcases hs with rfl
              all_goals (refine ⟨fun h => ?_, fun _ h => ?_⟩ <;> first | exact h | exact StoP.keep h hb | exact StoR.keep h hb | exact Blk.ext h hb | exact StaR.keep h hb)
            · intro s hs
              simp only [List.mem_cons, List.not_mem_nil, or_false] at hs
              rcases hs with rfl
              all_goals first | trivial
            · exact hk0
            · intro u u' hb hj
              have j0 := hj
              exact (j0.ext hb)
            · intro hGk hSk hJk
              refine allStep_cons (stepS_plain hGk hSk hBB hJk (by kernel_rfl) rfl ?_) ?_
              · intro a u hb hz hj hl hp K Q hK
                have e0 : a.tmps[0]?.getD undef = .string s := gd (hl 0 (by kernel_rfl))
                go_simp
                exact hK _ _ (Below.refl _ _) (by intro d hd; cases hd; exact rfl)
              refine allStep_cons (stepS_plain hGk hSk hBB hJk (by kernel_rfl) rfl ?_) ?_
              · intro a u hb hz hj hl hp K Q hK
                have e24 : a.tmps[24]?.getD undef = .string s := gd (hl 24 (by kernel_rfl))
                go_simp
                exact hK _ _ (Below.refl _ _) (by intro d hd; cases hd; exact rfl)
              refine allStep_cons (stepS_plain hGk hSk hBB hJk (by kernel_rfl) rfl ?_) ?_
              · intro a u hb hz hj hl hp K Q hK
                have e25 : a.tmps[25]?.getD undef = .int .u8 (byt s 1) := gd (hl 25 (by kernel_rfl))
                have ew : IntKind.i64.wrap (byt s 1) = byt s 1 := IntWalk.i64_in _ ⟨by omega, by omega⟩
                go_simp
                exact hK _ _ (Below.refl _ _) (by intro d hd; cases hd; exact rfl)
              refine allStep_cons (stepS_plain hGk hSk hBB hJk (by kernel_rfl) rfl ?_) ?_
              · intro a u hb hz hj hl hp K Q hK
                have e0 : a.tmps[0]?.getD undef = .string s := gd (hl 0 (by kernel_rfl))
                go_simp
                exact hK _ _ (Below.refl _ _) (by intro d hd; cases hd; exact rfl)
              refine allStep_cons (stepS_plain hGk hSk hBB hJk (by kernel_rfl) rfl ?_) ?_
              · intro a u hb hz hj hl hp K Q hK
                have e27 : a.tmps[27]?.getD undef = .string s := gd (hl 27 (by kernel_rfl))
                go_simp
                refine (implGet16_c s 4 _ hs ⟨by decide, by decide⟩).mono ?_
                rintro e u1 ⟨rfl, hb1⟩
                exact hK _ _ hb1 (by intro d hd; cases hd; exact rfl)
              refine allStep_cons (stepS_plain hGk hSk hBB hJk (by kernel_rfl) rfl ?_) ?_
              · intro a u hb hz hj hl hp K Q hK
                have e0 : a.tmps[0]?.getD undef = .string s := gd (hl 0 (by kernel_rfl))
                go_simp
                exact hK _ _ (Below.refl _ _) (by intro d hd; cases hd; exact rfl)
              refine allStep_cons (stepS_plain hGk hSk hBB hJk (by kernel_rfl) rfl ?_) ?_
              · intro a u hb hz hj hl hp K Q hK
                have e29 : a.tmps[29]?.getD undef = .string s := gd (hl 29 (by kernel_rfl))
                go_simp
                exact hK _ _ (Below.refl _ _) (by intro d hd; cases hd; exact rfl)
              refine allStep_cons (stepS_plain hGk hSk hBB hJk (by kernel_rfl) rfl ?_) ?_
              · intro a u hb hz hj hl hp K Q hK
                have e30 : a.tmps[30]?.getD undef = .int .u8 (byt s 8) := gd (hl 30 (by kernel_rfl))
                have ew : IntKind.i64.wrap (byt s 8) = byt s 8 := IntWalk.i64_in _ ⟨by omega, by omega⟩
                go_simp
                exact hK _ _ (Below.refl _ _) (by intro d hd; cases hd; exact rfl)
              refine allStep_cons (stepS_plain hGk hSk hBB hJk (by kernel_rfl) rfl ?_) ?_
              · intro a u hb hz hj hl hp K Q hK
                have e0 : a.tmps[0]?.getD undef = .string s := gd (hl 0 (by kernel_rfl))
                go_simp
                exact hK _ _ (Below.refl _ _) (by intro d hd; cases hd; exact rfl)
              refine allStep_cons (stepS_plain hGk hSk hBB hJk (by kernel_rfl) rfl ?_) ?_
              · intro a u hb hz hj hl hp K Q hK
                have e32 : a.tmps[32]?.getD undef = .string s := gd (hl 32 (by kernel_rfl))
                go_simp
                exact hK _ _ (Below.refl _ _) (by intro d hd; cases hd; exact rfl)
              refine allStep_cons (stepS_plain hGk hSk hBB hJk (by kernel_rfl) rfl ?_) ?_
              · intro a u hb hz hj hl hp K Q hK
                have e33 : a.tmps[33]?.getD undef = .int .u8 (byt s 9) := gd (hl 33 (by kernel_rfl))
                have ew : IntKind.i64.wrap (byt s 9) = byt s 9 := IntWalk.i64_in _ ⟨by omega, by omega⟩
                go_simp
                exact hK _ _ (Below.refl _ _) (by intro d hd; cases hd; exact rfl)
              refine allStep_cons (stepS_plain hGk hSk hBB hJk (by kernel_rfl) rfl ?_) ?_
              · intro a u hb hz hj hl hp K Q hK
                have e0 : a.tmps[0]?.getD undef = .string s := gd (hl 0 (by kernel_rfl))
                go_simp
                exact hK _ _ (Below.refl _ _) (by intro d hd; cases hd; exact rfl)
              refine allStep_cons (stepS_plain hGk hSk hBB hJk (by kernel_rfl) rfl ?_) ?_
              · intro a u hb hz hj hl hp K Q hK
                have e35 : a.tmps[35]?.getD undef = .string s := gd (hl 35 (by kernel_rfl))
                go_simp
                refine (implGet32_c s 12 _ hs ⟨by decide, by decide⟩).mono ?_
                rintro e u1 ⟨rfl, hb1⟩
                exact hK _ _ hb1 (by intro d hd; cases hd; exact rfl)
              refine allStep_cons (stepS_plain hGk hSk hBB hJk (by kernel_rfl) rfl ?_) ?_
              · intro a u hb hz hj hl hp K Q hK
                have e0 : a.tmps[0]?.getD undef = .string s := gd (hl 0 (by kernel_rfl))
                go_simp
                exact hK _ _ (Below.refl _ _) (by intro d hd; cases hd; exact rfl)
              refine allStep_cons (stepS_plain hGk hSk hBB hJk (by kernel_rfl) rfl ?_) ?_
              · intro a u hb hz hj hl hp K Q hK
                have e37 : a.tmps[37]?.getD undef = .string s := gd (hl 37 (by kernel_rfl))
                go_simp
                refine (implGet32_c s 16 _ hs ⟨by decide, by decide⟩).mono ?_
                rintro e u1 ⟨rfl, hb1⟩
                exact hK _ _ hb1 (by intro d hd; cases hd; exact rfl)
              refine allStep_cons (stepS_plain hGk hSk hBB hJk (by kernel_rfl) rfl ?_) ?_
              · intro a u hb hz hj hl hp K Q hK
                have e0 : a.tmps[0]?.getD undef = .string s := gd (hl 0 (by kernel_rfl))
                go_simp
                exact hK _ _ (Below.refl _ _) (by intro d hd; cases hd; exact rfl)
              refine allStep_cons (stepS_plain hGk hSk hBB hJk (by kernel_rfl) rfl ?_) ?_
              · intro a u hb hz hj hl hp K Q hK
                have e4 : a.tmps[4]?.getD undef = .int .i64 n := gd (hl 4 (by kernel_rfl))
                go_simp
                exact hK _ _ (Below.refl _ _) (by intro d hd; cases hd; exact rfl)
              refine allStep_cons (stepS_plain hGk hSk hBB hJk (by kernel_rfl) rfl ?_) ?_
              · intro a u hb hz hj hl hp K Q hK
                have e39 : a.tmps[39]?.getD undef = .string s := gd (hl 39 (by kernel_rfl))
                have e40 : a.tmps[40]?.getD undef = .int .i64 n := gd (hl 40 (by kernel_rfl))
                go_simp
                exact hK _ _ (Below.refl _ _) (by intro d hd; cases hd; exact rfl)
              refine allStep_cons (stepS_plain hGk hSk hBB hJk (by kernel_rfl) rfl ?_) ?_
              · intro a u hb hz hj hl hp K Q hK
                have e26 : a.tmps[26]?.getD undef = .int .i64 (byt s 1) := gd (hl 26 (by kernel_rfl))
                have e28 : a.tmps[28]?.getD undef = .int .i64 (g16 s 4) := gd (hl 28 (by kernel_rfl))
                have e31 : a.tmps[31]?.getD undef = .int .i64 (byt s 8) := gd (hl 31 (by kernel_rfl))
                have e34 : a.tmps[34]?.getD undef = .int .i64 (byt s 9) := gd (hl 34 (by kernel_rfl))
                have e36 : a.tmps[36]?.getD undef = .int .i64 (g32 s 12) := gd (hl 36 (by kernel_rfl))
                have e38 : a.tmps[38]?.getD undef = .int .i64 (g32 s 16) := gd (hl 38 (by kernel_rfl))
                have e41 : a.tmps[41]?.getD undef = .string B := gd (hl 41 (by kernel_rfl))
                go_simp
                exact hK _ _ (Below.refl _ _) (by intro d hd; cases hd; exact rfl)
              refine allStep_cons (stepS_plain hGk hSk hBB hJk (by kernel_rfl) rfl ?_) ?_
              · intro a u hb hz hj hl hp K Q hK
                go_simp
                exact hK _ _ (by go_grown) (by intro d hd; cases hd; exact BoxP.new _ _ [.int .i64 0, .int .i64 0, .int .i64 0, .int .i64 0, .int .i64 0, .int .i64 0, .string ⟨#[]⟩] (by omega) rfl)
              refine allStep_cons (stepS_store (Chg w1.heap.size 110) (fun _ _ hc hb => hc.below' (by omega) hb) (fun _ _ hc => hc.size) (hold_rel ?_) ?_ ?_ rfl rfl ?_) ?_
              · intro p hp
                simp only [List.mem_cons, List.not_mem_nil, or_false] at hp
                rcases hp with rfl | rfl | rfl | rfl | rfl | rfl | rfl | rfl | rfl | rfl | rfl | rfl | rfl | rfl | rfl | rfl | rfl | rfl | rfl | rfl
                all_goals (intro u u' v hb hv; first | exact hv | exact BoxP.chg hv hb | exact RowP.chg hv hb (by decide))
              · intro s hs hne u u' hb
                simp only [List.mem_cons, List.not_mem_nil, or_false] at hs
                rcases hs with rfl
                all_goals first | exact absurd (by rfl) hne | (refine ⟨fun h => ?_, fun _ h => ?_⟩ <;> first | exact h | exact StoP.chg h hb (by decide) | exact StoR.chg h hb (by decide) (by decide) | exact Blk.chgL h hb (by omega) | exact StaR.chgL h hb (by omega) (by decide))
              · intro u u' hb hj
                have j0 := hj
                exact (j0.chgL hb (by omega))
              · intro a u hb hz hj hl hp K Q hK
                obtain ⟨b, exb, hB, zs, hzl, hbk⟩ : BoxP w1.heap.size 110 7 u (a.tmps.getD 5 undef) := hl 5 (by kernel_rfl)
                have e5 := gd exb
                have e42 : a.tmps[42]?.getD undef = .agg #[.int .i64 (byt s 1), .int .i64 (g16 s 4), .int .i64 (byt s 8), .int .i64 (byt s 9), .int .i64 (g32 s 12), .int .i64 (g32 s 16), .string B] := gd (hl 42 (by kernel_rfl))
                obtain ⟨z0, z1, z2, z3, z4, z5, z6, rfl⟩ : ∃ z0 z1 z2 z3 z4 z5 z6, zs = [z0, z1, z2, z3, z4, z5, z6] := (by match zs, hzl with | [z0, z1, z2, z3, z4, z5, z6], _ => exact ⟨_, _, _, _, _, _, _, rfl⟩)
                have hlt := hbk.lt
                have g0 : u.cell? ⟨b, 0, none⟩ = some z0 := (hbk.cell 0).trans rfl
                have f0 := hbk.frozen 0
                have g1 : u.cell? ⟨b, 1, none⟩ = some z1 := (hbk.cell 1).trans rfl
                have f1 := hbk.frozen 1
                have g2 : u.cell? ⟨b, 2, none⟩ = some z2 := (hbk.cell 2).trans rfl
                have f2 := hbk.frozen 2
                have g3 : u.cell? ⟨b, 3, none⟩ = some z3 := (hbk.cell 3).trans rfl
                have f3 := hbk.frozen 3
                have g4 : u.cell? ⟨b, 4, none⟩ = some z4 := (hbk.cell 4).trans rfl
                have f4 := hbk.frozen 4
                have g5 : u.cell? ⟨b, 5, none⟩ = some z5 := (hbk.cell 5).trans rfl
                have f5 := hbk.frozen 5
                have g6 : u.cell? ⟨b, 6, none⟩ = some z6 := (hbk.cell 6).trans rfl
                have f6 := hbk.frozen 6
                go_simp
                refine hK undef _ ((((((((Chg.refl _ _ _).set hbk hB 0 _).set (hbk.set_ 0 _) hB 1 _).set ((hbk.set_ 0 _).set_ 1 _) hB 2 _).set (((hbk.set_ 0 _).set_ 1 _).set_ 2 _) hB 3 _).set ((((hbk.set_ 0 _).set_ 1 _).set_ 2 _).set_ 3 _) hB 4 _).set (((((hbk.set_ 0 _).set_ 1 _).set_ 2 _).set_ 3 _).set_ 4 _) hB 5 _).set ((((((hbk.set_ 0 _).set_ 1 _).set_ 2 _).set_ 3 _).set_ 4 _).set_ 5 _) hB 6 _) (fun s hs he => ?_)
                simp only [List.mem_cons, List.not_mem_nil, or_false] at hs
                rcases hs with rfl
                · exact ⟨b, exb, hB, (((((((hbk.set_ 0 _).set_ 1 _).set_ 2 _).set_ 3 _).set_ 4 _).set_ 5 _).set_ 6 _)⟩
              exact allStep_nil
            intro xT w2 hb hz hj hL hSt
            clear hk0
            have hk0 : (fun u => Blk u (w.heap.size) 110 [.int .i64 0, .int .i64 0, .int .i64 0, .int .i64 0, .int .i64 0, .int .i64 0, .string ⟨#[]⟩]) w2 := hj
            dsimp only at hk0
            obtain ⟨bk_1, fx5, lo1, hk1⟩ : StoP w1.heap.size 110 [.int .i64 (byt s 1), .int .i64 (g16 s 4), .int .i64 (byt s 8), .int .i64 (byt s 9), .int .i64 (g32 s 12), .int .i64 (g32 s 16), .string B] w2 (xT 5) := hSt _ (List.mem_of_getElem? (i := 0) rfl)
            simp only [List.map, putAll, fx5]
            have bl1 := hk1.lt
            have k2 : Below w.heap.size w w2 := k1.trans hb
            have p2 : w1.heap.size ≤ w2.heap.size := hb.size
            have bl0 := Nat.lt_of_lt_of_le bl0 hb.size
            clear hL hSt hb hz fx5
            have bx1_0 := hk1.at_ 0 _ rfl
            have bx1_1 := hk1.at_ 1 _ rfl
            have bx1_2 := hk1.at_ 2 _ rfl
            have bx1_3 := hk1.at_ 3 _ rfl
            have bx1_4 := hk1.at_ 4 _ rfl
            have bx1_5 := hk1.at_ 5 _ rfl
            have bx1_6 := hk1.at_ 6 _ rfl
            go_wp2_with fail
            refine (hbi _).mono ?_
            rintro e w3 ⟨rfl, hb⟩
            have k3 : Below w.heap.size w w3 := ext_step k2 (by omega) hb
            have p3 := hb.size
            replace hk0 := hk0.ext hb
            replace hk1 := hk1.ext hb
            clear bx1_0 bx1_1 bx1_2 bx1_3 bx1_4 bx1_5 bx1_6
            have bl0 := Nat.lt_of_lt_of_le bl0 hb.size
            have bl1 := Nat.lt_of_lt_of_le bl1 hb.size
            clear hb
            clear  hk1
            have bx0_0 := hk0.at_ 0 _ rfl
            have fz0_0 := hk0.frozen 0
            have bx0_1 := hk0.at_ 1 _ rfl
            have fz0_1 := hk0.frozen 1
            have bx0_2 := hk0.at_ 2 _ rfl
            have fz0_2 := hk0.frozen 2
            have bx0_3 := hk0.at_ 3 _ rfl
            have fz0_3 := hk0.frozen 3
            have bx0_4 := hk0.at_ 4 _ rfl
            have fz0_4 := hk0.frozen 4
            have bx0_5 := hk0.at_ 5 _ rfl
            have fz0_5 := hk0.frozen 5
            have bx0_6 := hk0.at_ 6 _ rfl
            have fz0_6 := hk0.frozen 6
            go_wp2_with fail
            have hcc := ChgA.refl (w.heap.size) w3
            obtain ⟨w4_0, hW0⟩ : ∃ W, W = w3.setCell ⟨w.heap.size, 0, none⟩ (.int .i64 0) := ⟨_, rfl⟩
            replace hcc : ChgA (w.heap.size) w3 w4_0 := by rw [hW0]; exact hcc.set _ _
            replace hk0 : Blk w4_0 (w.heap.size) 110 [.int .i64 0, .int .i64 0, .int .i64 0, .int .i64 0, .int .i64 0, .int .i64 0, .string ⟨#[]⟩] := by rw [hW0]; exact hk0.set_ 0 _
            rw [← hW0]
            clear hW0
            obtain ⟨w4_1, hW0⟩ : ∃ W, W = w4_0.setCell ⟨w.heap.size, 1, none⟩ (.int .i64 0) := ⟨_, rfl⟩
            replace hcc : ChgA (w.heap.size) w3 w4_1 := by rw [hW0]; exact hcc.set _ _
            replace hk0 : Blk w4_1 (w.heap.size) 110 [.int .i64 0, .int .i64 0, .int .i64 0, .int .i64 0, .int .i64 0, .int .i64 0, .string ⟨#[]⟩] := by rw [hW0]; exact hk0.set_ 1 _
            rw [← hW0]
            clear hW0
            obtain ⟨w4_2, hW0⟩ : ∃ W, W = w4_1.setCell ⟨w.heap.size, 2, none⟩ (.int .i64 0) := ⟨_, rfl⟩
            replace hcc : ChgA (w.heap.size) w3 w4_2 := by rw [hW0]; exact hcc.set _ _
            replace hk0 : Blk w4_2 (w.heap.size) 110 [.int .i64 0, .int .i64 0, .int .i64 0, .int .i64 0, .int .i64 0, .int .i64 0, .string ⟨#[]⟩] := by rw [hW0]; exact hk0.set_ 2 _
            rw [← hW0]
            clear hW0
            obtain ⟨w4_3, hW0⟩ : ∃ W, W = w4_2.setCell ⟨w.heap.size, 3, none⟩ (.int .i64 0) := ⟨_, rfl⟩
            replace hcc : ChgA (w.heap.size) w3 w4_3 := by rw [hW0]; exact hcc.set _ _
            replace hk0 : Blk w4_3 (w.heap.size) 110 [.int .i64 0, .int .i64 0, .int .i64 0, .int .i64 0, .int .i64 0, .int .i64 0, .string ⟨#[]⟩] := by rw [hW0]; exact hk0.set_ 3 _
            rw [← hW0]
            clear hW0
            obtain ⟨w4_4, hW0⟩ : ∃ W, W = w4_3.setCell ⟨w.heap.size, 4, none⟩ (.int .i64 0) := ⟨_, rfl⟩
            replace hcc : ChgA (w.heap.size) w3 w4_4 := by rw [hW0]; exact hcc.set _ _
            replace hk0 : Blk w4_4 (w.heap.size) 110 [.int .i64 0, .int .i64 0, .int .i64 0, .int .i64 0, .int .i64 0, .int .i64 0, .string ⟨#[]⟩] := by rw [hW0]; exact hk0.set_ 4 _
            rw [← hW0]
            clear hW0
            obtain ⟨w4_5, hW0⟩ : ∃ W, W = w4_4.setCell ⟨w.heap.size, 5, none⟩ (.int .i64 0) := ⟨_, rfl⟩
            replace hcc : ChgA (w.heap.size) w3 w4_5 := by rw [hW0]; exact hcc.set _ _
            replace hk0 : Blk w4_5 (w.heap.size) 110 [.int .i64 0, .int .i64 0, .int .i64 0, .int .i64 0, .int .i64 0, .int .i64 0, .string ⟨#[]⟩] := by rw [hW0]; exact hk0.set_ 5 _
            rw [← hW0]
            clear hW0
            obtain ⟨w4, hW0⟩ : ∃ W, W = w4_5.setCell ⟨w.heap.size, 6, none⟩ (.string ⟨#[]⟩) := ⟨_, rfl⟩
            replace hcc : ChgA (w.heap.size) w3 w4 := by rw [hW0]; exact hcc.set _ _
            replace hk0 : Blk w4 (w.heap.size) 110 [.int .i64 0, .int .i64 0, .int .i64 0, .int .i64 0, .int .i64 0, .int .i64 0, .string ⟨#[]⟩] := by rw [hW0]; exact hk0.set_ 6 _
            rw [← hW0]
            clear hW0
            have hc := hcc
            have k4 := hc.below (by omega) k3
            have p4 := hc.size
            replace bl0 := Nat.lt_of_lt_of_le bl0 (Nat.le_of_eq p4.symm)
            replace bl1 := Nat.lt_of_lt_of_le bl1 (Nat.le_of_eq p4.symm)
            clear hc hcc
            clear bx0_0 fz0_0 bx0_1 fz0_1 bx0_2 fz0_2 bx0_3 fz0_3 bx0_4 fz0_4 bx0_5 fz0_5 bx0_6 fz0_6
            have bx0_0 := hk0.at_ 0 _ rfl
            have bx0_1 := hk0.at_ 1 _ rfl
            have bx0_2 := hk0.at_ 2 _ rfl
            have bx0_3 := hk0.at_ 3 _ rfl
            have bx0_4 := hk0.at_ 4 _ rfl
            have bx0_5 := hk0.at_ 5 _ rfl
            have bx0_6 := hk0.at_ 6 _ rfl
            refine bodyPost_ret (v := .tuple #[.agg #[.int .i64 0, .int .i64 0, .int .i64 0, .int .i64 0, .int .i64 0, .int .i64 0, .string ⟨#[]⟩], .bool false]) (by simp [results, Try.results74, go_sem, bx0_0, bx0_1, bx0_2, bx0_3, bx0_4, bx0_5, bx0_6]) rfl ?_
            exact ⟨rfl, k4⟩
          · have hok0 : okP s = true := by rw [okP, hcond, hB, hip, hP, hnn, hc]; rfl
            rw [hok0]
            clear hcond hip hP
            simp only [ipI_yes hok0, ipT_yes hok0]
            clear hok0
            go_enter Try.func74, Try.ntmps74
            go_wp2_with fail
            have k0 : Below w.heap.size w (w.alloc (.cells #[.int .i64 0, .int .i64 0, .int .i64 0, .int .i64 0, .int .i64 0, .int .i64 0, .string ⟨#[]⟩] 110)) := by go_grown
            have bl0 : w.heap.size < (w.alloc (.cells #[.int .i64 0, .int .i64 0, .int .i64 0, .int .i64 0, .int .i64 0, .int .i64 0, .string ⟨#[]⟩] 110)).heap.size := by go_size
            have hk0 : Blk (w.alloc (.cells #[.int .i64 0, .int .i64 0, .int .i64 0, .int .i64 0, .int .i64 0, .int .i64 0, .string ⟨#[]⟩] 110)) (w.heap.size) 110 [.int .i64 0, .int .i64 0, .int .i64 0, .int .i64 0, .int .i64 0, .int .i64 0, .string ⟨#[]⟩] := by simpa using Blk.new w 110 [.int .i64 0, .int .i64 0, .int .i64 0, .int .i64 0, .int .i64 0, .int .i64 0, .string ⟨#[]⟩]
            have p0 := k0.size
            generalize hW0 : (w.alloc (.cells #[.int .i64 0, .int .i64 0, .int .i64 0, .int .i64 0, .int .i64 0, .int .i64 0, .string ⟨#[]⟩] 110)) = w0 at *
            clear hW0
            refine (hn _).mono ?_
            rintro e w1 ⟨rfl, hb⟩
            have k1 : Below w.heap.size w w1 := ext_step k0 (by omega) hb
            have p1 := hb.size
            replace hk0 := hk0.ext hb
            have bl0 := Nat.lt_of_lt_of_le bl0 hb.size
            clear hb
            go_wp2_with fail
            have hBB : w.heap.size ≤ w1.heap.size := by omega
            refine wp_region_slotsS (w.heap.size) [(24, fun _ v => v = .string s), (25, fun _ v => v = .int .u8 (byt s 1)), (26, fun _ v => v = .int .i64 (byt s 1)), (27, fun _ v => v = .string s), (28, fun _ v => v = .int .i64 (g16 s 4)), (29, fun _ v => v = .string s), (30, fun _ v => v = .int .u8 (byt s 8)), (31, fun _ v => v = .int .i64 (byt s 8)), (32, fun _ v => v = .string s), (33, fun _ v => v = .int .u8 (byt s 9)), (34, fun _ v => v = .int .i64 (byt s 9)), (35, fun _ v => v = .string s), (36, fun _ v => v = .int .i64 (g32 s 12)), (37, fun _ v => v = .string s), (38, fun _ v => v = .int .i64 (g32 s 16)), (39, fun _ v => v = .string s), (40, fun _ v => v = .int .i64 n), (41, fun _ v => v = .string B), (42, fun _ v => v = .agg #[.int .i64 (byt s 1), .int .i64 (g16 s 4), .int .i64 (byt s 8), .int .i64 (byt s 9), .int .i64 (g32 s 12), .int .i64 (g32 s 16), .string B]), (5, BoxP w1.heap.size 110 7)] [⟨20, 5, fun _ => True, StoP w1.heap.size 110 [.int .i64 (byt s 1), .int .i64 (g16 s 4), .int .i64 (byt s 8), .int .i64 (byt s 9), .int .i64 (g32 s 12), .int .i64 (g32 s 16), .string B]⟩] (fun u => Blk u (w.heap.size) 110 [.int .i64 0, .int .i64 0, .int .i64 0, .int .i64 0, .int .i64 0, .int .i64 0, .string ⟨#[]⟩]) (by kernel_rfl) hBB (by kernel_rfl) (by kernel_rfl) (by kernel_rfl) (by kernel_rfl) ?_ ?_ ?_ ?_ ?_ ?_ ?_
            · intro p hp
              simp only [List.mem_cons, List.not_mem_nil, or_false] at hp
              rcases hp with rfl | rfl | rfl | rfl | rfl | rfl | rfl | rfl | rfl | rfl | rfl | rfl | rfl | rfl | rfl | rfl | rfl | rfl | rfl | rfl
              all_goals (intro u u' v hb hv; first | exact hv | exact BoxP.keep hv hb | exact RowP.keep hv hb)
            · intro s hs u u' hb
              simp only [List.mem_cons, List.not_mem_nil, or_false] at hs
              rcases hs with rfl
              all_goals (refine ⟨fun h => ?_, fun _ h => ?_⟩ <;> first | exact h | exact StoP.keep h hb | exact StoR.keep h hb | exact Blk.ext h hb | exact StaR.keep h hb)
            · intro s hs
              simp only [List.mem_cons, List.not_mem_nil, or_false] at hs
              rcases hs with rfl
              all_goals first | trivial
            · exact hk0
            · intro u u' hb hj
              have j0 := hj
              exact (j0.ext hb)
            · intro hGk hSk hJk
              refine allStep_cons (stepS_plain hGk hSk hBB hJk (by kernel_rfl) rfl ?_) ?_
              · intro a u hb hz hj hl hp K Q hK
                have e0 : a.tmps[0]?.getD undef = .string s := gd (hl 0 (by kernel_rfl))
                go_simp
                exact hK _ _ (Below.refl _ _) (by intro d hd; cases hd; exact rfl)
              refine allStep_cons (stepS_plain hGk hSk hBB hJk (by kernel_rfl) rfl ?_) ?_
              · intro a u hb hz hj hl hp K Q hK
                have e24 : a.tmps[24]?.getD undef = .string s := gd (hl 24 (by kernel_rfl))
                go_simp
                exact hK _ _ (Below.refl _ _) (by intro d hd; cases hd; exact rfl)
              refine allStep_cons (stepS_plain hGk hSk hBB hJk (by kernel_rfl) rfl ?_) ?_
              · intro a u hb hz hj hl hp K Q hK
                have e25 : a.tmps[25]?.getD undef = .int .u8 (byt s 1) := gd (hl 25 (by kernel_rfl))
                have ew : IntKind.i64.wrap (byt s 1) = byt s 1 := IntWalk.i64_in _ ⟨by omega, by omega⟩
                go_simp
                exact hK _ _ (Below.refl _ _) (by intro d hd; cases hd; exact rfl)
              refine allStep_cons (stepS_plain hGk hSk hBB hJk (by kernel_rfl) rfl ?_) ?_
              · intro a u hb hz hj hl hp K Q hK
                have e0 : a.tmps[0]?.getD undef = .string s := gd (hl 0 (by kernel_rfl))
                go_simp
                exact hK _ _ (Below.refl _ _) (by intro d hd; cases hd; exact rfl)
              refine allStep_cons (stepS_plain hGk hSk hBB hJk (by kernel_rfl) rfl ?_) ?_
              · intro a u hb hz hj hl hp K Q hK
                have e27 : a.tmps[27]?.getD undef = .string s := gd (hl 27 (by kernel_rfl))
                go_simp
                refine (implGet16_c s 4 _ hs ⟨by decide, by decide⟩).mono ?_
                rintro e u1 ⟨rfl, hb1⟩
                exact hK _ _ hb1 (by intro d hd; cases hd; exact rfl)
              refine allStep_cons (stepS_plain hGk hSk hBB hJk (by kernel_rfl) rfl ?_) ?_
              · intro a u hb hz hj hl hp K Q hK
                have e0 : a.tmps[0]?.getD undef = .string s := gd (hl 0 (by kernel_rfl))
                go_simp
                exact hK _ _ (Below.refl _ _) (by intro d hd; cases hd; exact rfl)
              refine allStep_cons (stepS_plain hGk hSk hBB hJk (by kernel_rfl) rfl ?_) ?_
              · intro a u hb hz hj hl hp K Q hK
                have e29 : a.tmps[29]?.getD undef = .string s := gd (hl 29 (by kernel_rfl))
                go_simp
                exact hK _ _ (Below.refl _ _) (by intro d hd; cases hd; exact rfl)
              refine allStep_cons (stepS_plain hGk hSk hBB hJk (by kernel_rfl) rfl ?_) ?_
              · intro a u hb hz hj hl hp K Q hK
                have e30 : a.tmps[30]?.getD undef = .int .u8 (byt s 8) := gd (hl 30 (by kernel_rfl))
                have ew : IntKind.i64.wrap (byt s 8) = byt s 8 := IntWalk.i64_in _ ⟨by omega, by omega⟩
                go_simp
                exact hK _ _ (Below.refl _ _) (by intro d hd; cases hd; exact rfl)
              refine allStep_cons (stepS_plain hGk hSk hBB hJk (by kernel_rfl) rfl ?_) ?_
              · intro a u hb hz hj hl hp K Q hK
                have e0 : a.tmps[0]?.getD undef = .string s := gd (hl 0 (by kernel_rfl))
                go_simp
                exact hK _ _ (Below.refl _ _) (by intro d hd; cases hd; exact rfl)
              refine allStep_cons (stepS_plain hGk hSk hBB hJk (by kernel_rfl) rfl ?_) ?_
              · intro a u hb hz hj hl hp K Q hK
                have e32 : a.tmps[32]?.getD undef = .string s := gd (hl 32 (by kernel_rfl))
                go_simp
                exact hK _ _ (Below.refl _ _) (by intro d hd; cases hd; exact rfl)
              refine allStep_cons (stepS_plain hGk hSk hBB hJk (by kernel_rfl) rfl ?_) ?_
              · intro a u hb hz hj hl hp K Q hK
                have e33 : a.tmps[33]?.getD undef = .int .u8 (byt s 9) := gd (hl 33 (by kernel_rfl))
                have ew : IntKind.i64.wrap (byt s 9) = byt s 9 := IntWalk.i64_in _ ⟨by omega, by omega⟩
                go_simp
                exact hK _ _ (Below.refl _ _) (by intro d hd; cases hd; exact rfl)
              refine allStep_cons (stepS_plain hGk hSk hBB hJk (by kernel_rfl) rfl ?_) ?_
              · intro a u hb hz hj hl hp K Q hK
                have e0 : a.tmps[0]?.getD undef = .string s := gd (hl 0 (by kernel_rfl))
                go_simp
                exact hK _ _ (Below.refl _ _) (by intro d hd; cases hd; exact rfl)
              refine allStep_cons (stepS_plain hGk hSk hBB hJk (by kernel_rfl) rfl ?_) ?_
              · intro a u hb hz hj hl hp K Q hK
                have e35 : a.tmps[35]?.getD undef = .string s := gd (hl 35 (by kernel_rfl))
                go_simp
                refine (implGet32_c s 12 _ hs ⟨by decide, by decide⟩).mono ?_
                rintro e u1 ⟨rfl, hb1⟩
                exact hK _ _ hb1 (by intro d hd; cases hd; exact rfl)
              refine allStep_cons (stepS_plain hGk hSk hBB hJk (by kernel_rfl) rfl ?_) ?_
              · intro a u hb hz hj hl hp K Q hK
                have e0 : a.tmps[0]?.getD undef = .string s := gd (hl 0 (by kernel_rfl))
                go_simp
                exact hK _ _ (Below.refl _ _) (by intro d hd; cases hd; exact rfl)
              refine allStep_cons (stepS_plain hGk hSk hBB hJk (by kernel_rfl) rfl ?_) ?_
              · intro a u hb hz hj hl hp K Q hK
                have e37 : a.tmps[37]?.getD undef = .string s := gd (hl 37 (by kernel_rfl))
                go_simp
                refine (implGet32_c s 16 _ hs ⟨by decide, by decide⟩).mono ?_
                rintro e u1 ⟨rfl, hb1⟩
                exact hK _ _ hb1 (by intro d hd; cases hd; exact rfl)
              refine allStep_cons (stepS_plain hGk hSk hBB hJk (by kernel_rfl) rfl ?_) ?_
              · intro a u hb hz hj hl hp K Q hK
                have e0 : a.tmps[0]?.getD undef = .string s := gd (hl 0 (by kernel_rfl))
                go_simp
                exact hK _ _ (Below.refl _ _) (by intro d hd; cases hd; exact rfl)
              refine allStep_cons (stepS_plain hGk hSk hBB hJk (by kernel_rfl) rfl ?_) ?_
              · intro a u hb hz hj hl hp K Q hK
                have e4 : a.tmps[4]?.getD undef = .int .i64 n := gd (hl 4 (by kernel_rfl))
                go_simp
                exact hK _ _ (Below.refl _ _) (by intro d hd; cases hd; exact rfl)
              refine allStep_cons (stepS_plain hGk hSk hBB hJk (by kernel_rfl) rfl ?_) ?_
              · intro a u hb hz hj hl hp K Q hK
                have e39 : a.tmps[39]?.getD undef = .string s := gd (hl 39 (by kernel_rfl))
                have e40 : a.tmps[40]?.getD undef = .int .i64 n := gd (hl 40 (by kernel_rfl))
                go_simp
                exact hK _ _ (Below.refl _ _) (by intro d hd; cases hd; exact rfl)
              refine allStep_cons (stepS_plain hGk hSk hBB hJk (by kernel_rfl) rfl ?_) ?_
              · intro a u hb hz hj hl hp K Q hK
                have e26 : a.tmps[26]?.getD undef = .int .i64 (byt s 1) := gd (hl 26 (by kernel_rfl))
                have e28 : a.tmps[28]?.getD undef = .int .i64 (g16 s 4) := gd (hl 28 (by kernel_rfl))
                have e31 : a.tmps[31]?.getD undef = .int .i64 (byt s 8) := gd (hl 31 (by kernel_rfl))
                have e34 : a.tmps[34]?.getD undef = .int .i64 (byt s 9) := gd (hl 34 (by kernel_rfl))
                have e36 : a.tmps[36]?.getD undef = .int .i64 (g32 s 12) := gd (hl 36 (by kernel_rfl))
                have e38 : a.tmps[38]?.getD undef = .int .i64 (g32 s 16) := gd (hl 38 (by kernel_rfl))
                have e41 : a.tmps[41]?.getD undef = .string B := gd (hl 41 (by kernel_rfl))
                go_simp
                exact hK _ _ (Below.refl _ _) (by intro d hd; cases hd; exact rfl)
              refine allStep_cons (stepS_plain hGk hSk hBB hJk (by kernel_rfl) rfl ?_) ?_
              · intro a u hb hz hj hl hp K Q hK
                go_simp
                exact hK _ _ (by go_grown) (by intro d hd; cases hd; exact BoxP.new _ _ [.int .i64 0, .int .i64 0, .int .i64 0, .int .i64 0, .int .i64 0, .int .i64 0, .string ⟨#[]⟩] (by omega) rfl)
              refine allStep_cons (stepS_store (Chg w1.heap.size 110) (fun _ _ hc hb => hc.below' (by omega) hb) (fun _ _ hc => hc.size) (hold_rel ?_) ?_ ?_ rfl rfl ?_) ?_
              · intro p hp
                simp only [List.mem_cons, List.not_mem_nil, or_false] at hp
                rcases hp with rfl | rfl | rfl | rfl | rfl | rfl | rfl | rfl | rfl | rfl | rfl | rfl | rfl | rfl | rfl | rfl | rfl | rfl | rfl | rfl
                all_goals (intro u u' v hb hv; first | exact hv | exact BoxP.chg hv hb | exact RowP.chg hv hb (by decide))
              · intro s hs hne u u' hb
                simp only [List.mem_cons, List.not_mem_nil, or_false] at hs
                rcases hs with rfl
                all_goals first | exact absurd (by rfl) hne | (refine ⟨fun h => ?_, fun _ h => ?_⟩ <;> first | exact h | exact StoP.chg h hb (by decide) | exact StoR.chg h hb (by decide) (by decide) | exact Blk.chgL h hb (by omega) | exact StaR.chgL h hb (by omega) (by decide))
              · intro u u' hb hj
                have j0 := hj
                exact (j0.chgL hb (by omega))
              · intro a u hb hz hj hl hp K Q hK
                obtain ⟨b, exb, hB, zs, hzl, hbk⟩ : BoxP w1.heap.size 110 7 u (a.tmps.getD 5 undef) := hl 5 (by kernel_rfl)
                have e5 := gd exb
                have e42 : a.tmps[42]?.getD undef = .agg #[.int .i64 (byt s 1), .int .i64 (g16 s 4), .int .i64 (byt s 8), .int .i64 (byt s 9), .int .i64 (g32 s 12), .int .i64 (g32 s 16), .string B] := gd (hl 42 (by kernel_rfl))
                obtain ⟨z0, z1, z2, z3, z4, z5, z6, rfl⟩ : ∃ z0 z1 z2 z3 z4 z5 z6, zs = [z0, z1, z2, z3, z4, z5, z6] := (by match zs, hzl with | [z0, z1, z2, z3, z4, z5, z6], _ => exact ⟨_, _, _, _, _, _, _, rfl⟩)
                have hlt := hbk.lt
                have g0 : u.cell? ⟨b, 0, none⟩ = some z0 := (hbk.cell 0).trans rfl
                have f0 := hbk.frozen 0
                have g1 : u.cell? ⟨b, 1, none⟩ = some z1 := (hbk.cell 1).trans rfl
                have f1 := hbk.frozen 1
                have g2 : u.cell? ⟨b, 2, none⟩ = some z2 := (hbk.cell 2).trans rfl
                have f2 := hbk.frozen 2
                have g3 : u.cell? ⟨b, 3, none⟩ = some z3 := (hbk.cell 3).trans rfl
                have f3 := hbk.frozen 3
                have g4 : u.cell? ⟨b, 4, none⟩ = some z4 := (hbk.cell 4).trans rfl
                have f4 := hbk.frozen 4
                have g5 : u.cell? ⟨b, 5, none⟩ = some z5 := (hbk.cell 5).trans rfl
                have f5 := hbk.frozen 5
                have g6 : u.cell? ⟨b, 6, none⟩ = some z6 := (hbk.cell 6).trans rfl
                have f6 := hbk.frozen 6
                go_simp
                refine hK undef _ ((((((((Chg.refl _ _ _).set hbk hB 0 _).set (hbk.set_ 0 _) hB 1 _).set ((hbk.set_ 0 _).set_ 1 _) hB 2 _).set (((hbk.set_ 0 _).set_ 1 _).set_ 2 _) hB 3 _).set ((((hbk.set_ 0 _).set_ 1 _).set_ 2 _).set_ 3 _) hB 4 _).set (((((hbk.set_ 0 _).set_ 1 _).set_ 2 _).set_ 3 _).set_ 4 _) hB 5 _).set ((((((hbk.set_ 0 _).set_ 1 _).set_ 2 _).set_ 3 _).set_ 4 _).set_ 5 _) hB 6 _) (fun s hs he => ?_)
                simp only [List.mem_cons, List.not_mem_nil, or_false] at hs
                rcases hs with rfl
                · exact ⟨b, exb, hB, (((((((hbk.set_ 0 _).set_ 1 _).set_ 2 _).set_ 3 _).set_ 4 _).set_ 5 _).set_ 6 _)⟩
              exact allStep_nil
            intro xT w2 hb hz hj hL hSt
            clear hk0
            have hk0 : (fun u => Blk u (w.heap.size) 110 [.int .i64 0, .int .i64 0, .int .i64 0, .int .i64 0, .int .i64 0, .int .i64 0, .string ⟨#[]⟩]) w2 := hj
            dsimp only at hk0
            obtain ⟨bk_1, fx5, lo1, hk1⟩ : StoP w1.heap.size 110 [.int .i64 (byt s 1), .int .i64 (g16 s 4), .int .i64 (byt s 8), .int .i64 (byt s 9), .int .i64 (g32 s 12), .int .i64 (g32 s 16), .string B] w2 (xT 5) := hSt _ (List.mem_of_getElem? (i := 0) rfl)
            simp only [List.map, putAll, fx5]
            have bl1 := hk1.lt
            have k2 : Below w.heap.size w w2 := k1.trans hb
            have p2 : w1.heap.size ≤ w2.heap.size := hb.size
            have bl0 := Nat.lt_of_lt_of_le bl0 hb.size
            clear hL hSt hb hz fx5
            have bx1_0 := hk1.at_ 0 _ rfl
            have bx1_1 := hk1.at_ 1 _ rfl
            have bx1_2 := hk1.at_ 2 _ rfl
            have bx1_3 := hk1.at_ 3 _ rfl
            have bx1_4 := hk1.at_ 4 _ rfl
            have bx1_5 := hk1.at_ 5 _ rfl
            have bx1_6 := hk1.at_ 6 _ rfl
            go_wp2_with fail
            refine (hbi _).mono ?_
            rintro e w3 ⟨rfl, hb⟩
            have k3 : Below w.heap.size w w3 := ext_step k2 (by omega) hb
            have p3 := hb.size
            replace hk0 := hk0.ext hb
            replace hk1 := hk1.ext hb
            clear bx1_0 bx1_1 bx1_2 bx1_3 bx1_4 bx1_5 bx1_6
            have bl0 := Nat.lt_of_lt_of_le bl0 hb.size
            have bl1 := Nat.lt_of_lt_of_le bl1 hb.size
            clear hb
            have bx1_0 := hk1.at_ 0 _ rfl
            have bx1_1 := hk1.at_ 1 _ rfl
            have bx1_2 := hk1.at_ 2 _ rfl
            have bx1_3 := hk1.at_ 3 _ rfl
            have bx1_4 := hk1.at_ 4 _ rfl
            have bx1_5 := hk1.at_ 5 _ rfl
            have bx1_6 := hk1.at_ 6 _ rfl
            have bx0_0 := hk0.at_ 0 _ rfl
            have fz0_0 := hk0.frozen 0
            have bx0_1 := hk0.at_ 1 _ rfl
            have fz0_1 := hk0.frozen 1
            have bx0_2 := hk0.at_ 2 _ rfl
            have fz0_2 := hk0.frozen 2
            have bx0_3 := hk0.at_ 3 _ rfl
            have fz0_3 := hk0.frozen 3
            have bx0_4 := hk0.at_ 4 _ rfl
            have fz0_4 := hk0.frozen 4
            have bx0_5 := hk0.at_ 5 _ rfl
            have fz0_5 := hk0.frozen 5
            have bx0_6 := hk0.at_ 6 _ rfl
            have fz0_6 := hk0.frozen 6
            go_wp2_with fail
            clear bx1_0 bx1_1 bx1_2 bx1_3 bx1_4 bx1_5 bx1_6 hk1
            have hcc := ChgA.refl (w.heap.size) w3
            obtain ⟨w4_0, hW0⟩ : ∃ W, W = w3.setCell ⟨w.heap.size, 0, none⟩ (.int .i64 (byt s 1)) := ⟨_, rfl⟩
            replace hcc : ChgA (w.heap.size) w3 w4_0 := by rw [hW0]; exact hcc.set _ _
            replace hk0 : Blk w4_0 (w.heap.size) 110 [.int .i64 (byt s 1), .int .i64 0, .int .i64 0, .int .i64 0, .int .i64 0, .int .i64 0, .string ⟨#[]⟩] := by rw [hW0]; exact hk0.set_ 0 _
            rw [← hW0]
            clear hW0
            obtain ⟨w4_1, hW0⟩ : ∃ W, W = w4_0.setCell ⟨w.heap.size, 1, none⟩ (.int .i64 (g16 s 4)) := ⟨_, rfl⟩
            replace hcc : ChgA (w.heap.size) w3 w4_1 := by rw [hW0]; exact hcc.set _ _
            replace hk0 : Blk w4_1 (w.heap.size) 110 [.int .i64 (byt s 1), .int .i64 (g16 s 4), .int .i64 0, .int .i64 0, .int .i64 0, .int .i64 0, .string ⟨#[]⟩] := by rw [hW0]; exact hk0.set_ 1 _
            rw [← hW0]
            clear hW0
            obtain ⟨w4_2, hW0⟩ : ∃ W, W = w4_1.setCell ⟨w.heap.size, 2, none⟩ (.int .i64 (byt s 8)) := ⟨_, rfl⟩
            replace hcc : ChgA (w.heap.size) w3 w4_2 := by rw [hW0]; exact hcc.set _ _
            replace hk0 : Blk w4_2 (w.heap.size) 110 [.int .i64 (byt s 1), .int .i64 (g16 s 4), .int .i64 (byt s 8), .int .i64 0, .int .i64 0, .int .i64 0, .string ⟨#[]⟩] := by rw [hW0]; exact hk0.set_ 2 _
            rw [← hW0]
            clear hW0
            obtain ⟨w4_3, hW0⟩ : ∃ W, W = w4_2.setCell ⟨w.heap.size, 3, none⟩ (.int .i64 (byt s 9)) := ⟨_, rfl⟩
            replace hcc : ChgA (w.heap.size) w3 w4_3 := by rw [hW0]; exact hcc.set _ _
            replace hk0 : Blk w4_3 (w.heap.size) 110 [.int .i64 (byt s 1), .int .i64 (g16 s 4), .int .i64 (byt s 8), .int .i64 (byt s 9), .int .i64 0, .int .i64 0, .string ⟨#[]⟩] := by rw [hW0]; exact hk0.set_ 3 _
            rw [← hW0]
            clear hW0
            obtain ⟨w4_4, hW0⟩ : ∃ W, W = w4_3.setCell ⟨w.heap.size, 4, none⟩ (.int .i64 (g32 s 12)) := ⟨_, rfl⟩
            replace hcc : ChgA (w.heap.size) w3 w4_4 := by rw [hW0]; exact hcc.set _ _
            replace hk0 : Blk w4_4 (w.heap.size) 110 [.int .i64 (byt s 1), .int .i64 (g16 s 4), .int .i64 (byt s 8), .int .i64 (byt s 9), .int .i64 (g32 s 12), .int .i64 0, .string ⟨#[]⟩] := by rw [hW0]; exact hk0.set_ 4 _
            rw [← hW0]
            clear hW0
            obtain ⟨w4_5, hW0⟩ : ∃ W, W = w4_4.setCell ⟨w.heap.size, 5, none⟩ (.int .i64 (g32 s 16)) := ⟨_, rfl⟩
            replace hcc : ChgA (w.heap.size) w3 w4_5 := by rw [hW0]; exact hcc.set _ _
            replace hk0 : Blk w4_5 (w.heap.size) 110 [.int .i64 (byt s 1), .int .i64 (g16 s 4), .int .i64 (byt s 8), .int .i64 (byt s 9), .int .i64 (g32 s 12), .int .i64 (g32 s 16), .string ⟨#[]⟩] := by rw [hW0]; exact hk0.set_ 5 _
            rw [← hW0]
            clear hW0
            obtain ⟨w4, hW0⟩ : ∃ W, W = w4_5.setCell ⟨w.heap.size, 6, none⟩ (.string B) := ⟨_, rfl⟩
            replace hcc : ChgA (w.heap.size) w3 w4 := by rw [hW0]; exact hcc.set _ _
            replace hk0 : Blk w4 (w.heap.size) 110 [.int .i64 (byt s 1), .int .i64 (g16 s 4), .int .i64 (byt s 8), .int .i64 (byt s 9), .int .i64 (g32 s 12), .int .i64 (g32 s 16), .string B] := by rw [hW0]; exact hk0.set_ 6 _
            rw [← hW0]
            clear hW0
            have hc := hcc
            have k4 := hc.below (by omega) k3
            have p4 := hc.size
            replace bl0 := Nat.lt_of_lt_of_le bl0 (Nat.le_of_eq p4.symm)
            replace bl1 := Nat.lt_of_lt_of_le bl1 (Nat.le_of_eq p4.symm)
            clear hc hcc
            clear bx0_0 fz0_0 bx0_1 fz0_1 bx0_2 fz0_2 bx0_3 fz0_3 bx0_4 fz0_4 bx0_5 fz0_5 bx0_6 fz0_6
            have bx0_0 := hk0.at_ 0 _ rfl
            have bx0_1 := hk0.at_ 1 _ rfl
            have bx0_2 := hk0.at_ 2 _ rfl
            have bx0_3 := hk0.at_ 3 _ rfl
            have bx0_4 := hk0.at_ 4 _ rfl
            have bx0_5 := hk0.at_ 5 _ rfl
            have bx0_6 := hk0.at_ 6 _ rfl
            refine bodyPost_ret (v := .tuple #[.agg #[.int .i64 (byt s 1), .int .i64 (g16 s 4), .int .i64 (byt s 8), .int .i64 (byt s 9), .int .i64 (g32 s 12), .int .i64 (g32 s 16), .string B], .bool true]) (by simp [results, Try.results74, go_sem, bx0_0, bx0_1, bx0_2, bx0_3, bx0_4, bx0_5, bx0_6]) rfl ?_
            exact ⟨rfl, k4⟩
      · have hok0 : okP s = false := by simp [okP, hhi]
        rw [hok0]
        simp only [ipI_no hok0, ipT_no hok0]
        generalize g16 s 2 = n at *
        go_enter Try.func74, Try.ntmps74
        go_wp2_with fail
        have k0 : Below w.heap.size w (w.alloc (.cells #[.int .i64 0, .int .i64 0, .int .i64 0, .int .i64 0, .int .i64 0, .int .i64 0, .string ⟨#[]⟩] 110)) := by go_grown
        have bl0 : w.heap.size < (w.alloc (.cells #[.int .i64 0, .int .i64 0, .int .i64 0, .int .i64 0, .int .i64 0, .int .i64 0, .string ⟨#[]⟩] 110)).heap.size := by go_size
        have hk0 : Blk (w.alloc (.cells #[.int .i64 0, .int .i64 0, .int .i64 0, .int .i64 0, .int .i64 0, .int .i64 0, .string ⟨#[]⟩] 110)) (w.heap.size) 110 [.int .i64 0, .int .i64 0, .int .i64 0, .int .i64 0, .int .i64 0, .int .i64 0, .string ⟨#[]⟩] := by simpa using Blk.new w 110 [.int .i64 0, .int .i64 0, .int .i64 0, .int .i64 0, .int .i64 0, .int .i64 0, .string ⟨#[]⟩]
        have p0 := k0.size
        generalize hW0 : (w.alloc (.cells #[.int .i64 0, .int .i64 0, .int .i64 0, .int .i64 0, .int .i64 0, .int .i64 0, .string ⟨#[]⟩] 110)) = w0 at *
        clear hW0
        refine (hn _).mono ?_
        rintro e w1 ⟨rfl, hb⟩
        have k1 : Below w.heap.size w w1 := ext_step k0 (by omega) hb
        have p1 := hb.size
        replace hk0 := hk0.ext hb
        have bl0 := Nat.lt_of_lt_of_le bl0 hb.size
        clear hb
        have bx0_0 := hk0.at_ 0 _ rfl
        have fz0_0 := hk0.frozen 0
        have bx0_1 := hk0.at_ 1 _ rfl
        have fz0_1 := hk0.frozen 1
        have bx0_2 := hk0.at_ 2 _ rfl
        have fz0_2 := hk0.frozen 2
        have bx0_3 := hk0.at_ 3 _ rfl
        have fz0_3 := hk0.frozen 3
        have bx0_4 := hk0.at_ 4 _ rfl
        have fz0_4 := hk0.frozen 4
        have bx0_5 := hk0.at_ 5 _ rfl
        have fz0_5 := hk0.frozen 5
        have bx0_6 := hk0.at_ 6 _ rfl
        have fz0_6 := hk0.frozen 6
        go_wp2_with fail
        have hcc := ChgA.refl (w.heap.size) w1
        obtain ⟨w2_0, hW0⟩ : ∃ W, W = w1.setCell ⟨w.heap.size, 0, none⟩ (.int .i64 0) := ⟨_, rfl⟩
        replace hcc : ChgA (w.heap.size) w1 w2_0 := by rw [hW0]; exact hcc.set _ _
        replace hk0 : Blk w2_0 (w.heap.size) 110 [.int .i64 0, .int .i64 0, .int .i64 0, .int .i64 0, .int .i64 0, .int .i64 0, .string ⟨#[]⟩] := by rw [hW0]; exact hk0.set_ 0 _
        rw [← hW0]
        clear hW0
        obtain ⟨w2_1, hW0⟩ : ∃ W, W = w2_0.setCell ⟨w.heap.size, 1, none⟩ (.int .i64 0) := ⟨_, rfl⟩
        replace hcc : ChgA (w.heap.size) w1 w2_1 := by rw [hW0]; exact hcc.set _ _
        replace hk0 : Blk w2_1 (w.heap.size) 110 [.int .i64 0, .int .i64 0, .int .i64 0, .int .i64 0, .int .i64 0, .int .i64 0, .string ⟨#[]⟩] := by rw [hW0]; exact hk0.set_ 1 _
        rw [← hW0]
        clear hW0
        obtain ⟨w2_2, hW0⟩ : ∃ W, W = w2_1.setCell ⟨w.heap.size, 2, none⟩ (.int .i64 0) := ⟨_, rfl⟩
        replace hcc : ChgA (w.heap.size) w1 w2_2 := by rw [hW0]; exact hcc.set _ _
        replace hk0 : Blk w2_2 (w.heap.size) 110 [.int .i64 0, .int .i64 0, .int .i64 0, .int .i64 0, .int .i64 0, .int .i64 0, .string ⟨#[]⟩] := by rw [hW0]; exact hk0.set_ 2 _
        rw [← hW0]
        clear hW0
        obtain ⟨w2_3, hW0⟩ : ∃ W, W = w2_2.setCell ⟨w.heap.size, 3, none⟩ (.int .i64 0) := ⟨_, rfl⟩
        replace hcc : ChgA (w.heap.size) w1 w2_3 := by rw [hW0]; exact hcc.set _ _
        replace hk0 : Blk w2_3 (w.heap.size) 110 [.int .i64 0, .int .i64 0, .int .i64 0, .int .i64 0, .int .i64 0, .int .i64 0, .string ⟨#[]⟩] := by rw [hW0]; exact hk0.set_ 3 _
        rw [← hW0]
        clear hW0
        obtain ⟨w2_4, hW0⟩ : ∃ W, W = w2_3.setCell ⟨w.heap.size, 4, none⟩ (.int .i64 0) := ⟨_, rfl⟩
        replace hcc : ChgA (w.heap.size) w1 w2_4 := by rw [hW0]; exact hcc.set _ _
        replace hk0 : Blk w2_4 (w.heap.size) 110 [.int .i64 0, .int .i64 0, .int .i64 0, .int .i64 0, .int .i64 0, .int .i64 0, .string ⟨#[]⟩] := by rw [hW0]; exact hk0.set_ 4 _
        rw [← hW0]
        clear hW0
        obtain ⟨w2_5, hW0⟩ : ∃ W, W = w2_4.setCell ⟨w.heap.size, 5, none⟩ (.int .i64 0) := ⟨_, rfl⟩
        replace hcc : ChgA (w.heap.size) w1 w2_5 := by rw [hW0]; exact hcc.set _ _
        replace hk0 : Blk w2_5 (w.heap.size) 110 [.int .i64 0, .int .i64 0, .int .i64 0, .int .i64 0, .int .i64 0, .int .i64 0, .string ⟨#[]⟩] := by rw [hW0]; exact hk0.set_ 5 _
        rw [← hW0]
        clear hW0
        obtain ⟨w2, hW0⟩ : ∃ W, W = w2_5.setCell ⟨w.heap.size, 6, none⟩ (.string ⟨#[]⟩) := ⟨_, rfl⟩
        replace hcc : ChgA (w.heap.size) w1 w2 := by rw [hW0]; exact hcc.set _ _
        replace hk0 : Blk w2 (w.heap.size) 110 [.int .i64 0, .int .i64 0, .int .i64 0, .int .i64 0, .int .i64 0, .int .i64 0, .string ⟨#[]⟩] := by rw [hW0]; exact hk0.set_ 6 _
        rw [← hW0]
        clear hW0
        have hc := hcc
        have k2 := hc.below (by omega) k1
        have p2 := hc.size
        replace bl0 := Nat.lt_of_lt_of_le bl0 (Nat.le_of_eq p2.symm)
        clear hc hcc
        clear bx0_0 fz0_0 bx0_1 fz0_1 bx0_2 fz0_2 bx0_3 fz0_3 bx0_4 fz0_4 bx0_5 fz0_5 bx0_6 fz0_6
        have bx0_0 := hk0.at_ 0 _ rfl
        have bx0_1 := hk0.at_ 1 _ rfl
        have bx0_2 := hk0.at_ 2 _ rfl
        have bx0_3 := hk0.at_ 3 _ rfl
        have bx0_4 := hk0.at_ 4 _ rfl
        have bx0_5 := hk0.at_ 5 _ rfl
        have bx0_6 := hk0.at_ 6 _ rfl
        refine bodyPost_ret (v := .tuple #[.agg #[.int .i64 0, .int .i64 0, .int .i64 0, .int .i64 0, .int .i64 0, .int .i64 0, .string ⟨#[]⟩], .bool false]) (by simp [results, Try.results74, go_sem, bx0_0, bx0_1, bx0_2, bx0_3, bx0_4, bx0_5, bx0_6]) rfl ?_
        exact ⟨rfl, k2⟩
    · have hok0 : okP s = false := by simp [okP, hlo]
      rw [hok0]
      simp only [ipI_no hok0, ipT_no hok0]
      generalize g16 s 2 = n at *
      go_enter Try.func74, Try.ntmps74
      go_wp2_with fail
      have k0 : Below w.heap.size w (w.alloc (.cells #[.int .i64 0, .int .i64 0, .int .i64 0, .int .i64 0, .int .i64 0, .int .i64 0, .string ⟨#[]⟩] 110)) := by go_grown
      have bl0 : w.heap.size < (w.alloc (.cells #[.int .i64 0, .int .i64 0, .int .i64 0, .int .i64 0, .int .i64 0, .int .i64 0, .string ⟨#[]⟩] 110)).heap.size := by go_size
      have hk0 : Blk (w.alloc (.cells #[.int .i64 0, .int .i64 0, .int .i64 0, .int .i64 0, .int .i64 0, .int .i64 0, .string ⟨#[]⟩] 110)) (w.heap.size) 110 [.int .i64 0, .int .i64 0, .int .i64 0, .int .i64 0, .int .i64 0, .int .i64 0, .string ⟨#[]⟩] := by simpa using Blk.new w 110 [.int .i64 0, .int .i64 0, .int .i64 0, .int .i64 0, .int .i64 0, .int .i64 0, .string ⟨#[]⟩]
      have p0 := k0.size
      generalize hW0 : (w.alloc (.cells #[.int .i64 0, .int .i64 0, .int .i64 0, .int .i64 0, .int .i64 0, .int .i64 0, .string ⟨#[]⟩] 110)) = w0 at *
      clear hW0
      refine (hn _).mono ?_
      rintro e w1 ⟨rfl, hb⟩
      have k1 : Below w.heap.size w w1 := ext_step k0 (by omega) hb
      have p1 := hb.size
      replace hk0 := hk0.ext hb
      have bl0 := Nat.lt_of_lt_of_le bl0 hb.size
      clear hb
      have bx0_0 := hk0.at_ 0 _ rfl
      have fz0_0 := hk0.frozen 0
      have bx0_1 := hk0.at_ 1 _ rfl
      have fz0_1 := hk0.frozen 1
      have bx0_2 := hk0.at_ 2 _ rfl
      have fz0_2 := hk0.frozen 2
      have bx0_3 := hk0.at_ 3 _ rfl
      have fz0_3 := hk0.frozen 3
      have bx0_4 := hk0.at_ 4 _ rfl
      have fz0_4 := hk0.frozen 4
      have bx0_5 := hk0.at_ 5 _ rfl
      have fz0_5 := hk0.frozen 5
      have bx0_6 := hk0.at_ 6 _ rfl
      have fz0_6 := hk0.frozen 6
      go_wp2_with fail
      have hcc := ChgA.refl (w.heap.size) w1
      obtain ⟨w2_0, hW0⟩ : ∃ W, W = w1.setCell ⟨w.heap.size, 0, none⟩ (.int .i64 0) := ⟨_, rfl⟩
      replace hcc : ChgA (w.heap.size) w1 w2_0 := by rw [hW0]; exact hcc.set _ _
      replace hk0 : Blk w2_0 (w.heap.size) 110 [.int .i64 0, .int .i64 0, .int .i64 0, .int .i64 0, .int .i64 0, .int .i64 0, .string ⟨#[]⟩] := by rw [hW0]; exact hk0.set_ 0 _
      rw [← hW0]
      clear hW0
      obtain ⟨w2_1, hW0⟩ : ∃ W, W = w2_0.setCell ⟨w.heap.size, 1, none⟩ (.int .i64 0) := ⟨_, rfl⟩
      replace hcc : ChgA (w.heap.size) w1 w2_1 := by rw [hW0]; exact hcc.set _ _
      replace hk0 : Blk w2_1 (w.heap.size) 110 [.int .i64 0, .int .i64 0, .int .i64 0, .int .i64 0, .int .i64 0, .int .i64 0, .string ⟨#[]⟩] := by rw [hW0]; exact hk0.set_ 1 _
      rw [← hW0]
      clear hW0
      obtain ⟨w2_2, hW0⟩ : ∃ W, W = w2_1.setCell ⟨w.heap.size, 2, none⟩ (.int .i64 0) := ⟨_, rfl⟩
      replace hcc : ChgA (w.heap.size) w1 w2_2 := by rw [hW0]; exact hcc.set _ _
      replace hk0 : Blk w2_2 (w.heap.size) 110 [.int .i64 0, .int .i64 0, .int .i64 0, .int .i64 0, .int .i64 0, .int .i64 0, .string ⟨#[]⟩] := by rw [hW0]; exact hk0.set_ 2 _
      rw [← hW0]
      clear hW0
      obtain ⟨w2_3, hW0⟩ : ∃ W, W = w2_2.setCell ⟨w.heap.size, 3, none⟩ (.int .i64 0) := ⟨_, rfl⟩
      replace hcc : ChgA (w.heap.size) w1 w2_3 := by rw [hW0]; exact hcc.set _ _
      replace hk0 : Blk w2_3 (w.heap.size) 110 [.int .i64 0, .int .i64 0, .int .i64 0, .int .i64 0, .int .i64 0, .int .i64 0, .string ⟨#[]⟩] := by rw [hW0]; exact hk0.set_ 3 _
      rw [← hW0]
      clear hW0
      obtain ⟨w2_4, hW0⟩ : ∃ W, W = w2_3.setCell ⟨w.heap.size, 4, none⟩ (.int .i64 0) := ⟨_, rfl⟩
      replace hcc : ChgA (w.heap.size) w1 w2_4 := by rw [hW0]; exact hcc.set _ _
      replace hk0 : Blk w2_4 (w.heap.size) 110 [.int .i64 0, .int .i64 0, .int .i64 0, .int .i64 0, .int .i64 0, .int .i64 0, .string ⟨#[]⟩] := by rw [hW0]; exact hk0.set_ 4 _
      rw [← hW0]
      clear hW0
      obtain ⟨w2_5, hW0⟩ : ∃ W, W = w2_4.setCell ⟨w.heap.size, 5, none⟩ (.int .i64 0) := ⟨_, rfl⟩
      replace hcc : ChgA (w.heap.size) w1 w2_5 := by rw [hW0]; exact hcc.set _ _
      replace hk0 : Blk w2_5 (w.heap.size) 110 [.int .i64 0, .int .i64 0, .int .i64 0, .int .i64 0, .int .i64 0, .int .i64 0, .string ⟨#[]⟩] := by rw [hW0]; exact hk0.set_ 5 _
      rw [← hW0]
      clear hW0
      obtain ⟨w2, hW0⟩ : ∃ W, W = w2_5.setCell ⟨w.heap.size, 6, none⟩ (.string ⟨#[]⟩) := ⟨_, rfl⟩
      replace hcc : ChgA (w.heap.size) w1 w2 := by rw [hW0]; exact hcc.set _ _
      replace hk0 : Blk w2 (w.heap.size) 110 [.int .i64 0, .int .i64 0, .int .i64 0, .int .i64 0, .int .i64 0, .int .i64 0, .string ⟨#[]⟩] := by rw [hW0]; exact hk0.set_ 6 _
      rw [← hW0]
      clear hW0
      have hc := hcc
      have k2 := hc.below (by omega) k1
      have p2 := hc.size
      replace bl0 := Nat.lt_of_lt_of_le bl0 (Nat.le_of_eq p2.symm)
      clear hc hcc
      clear bx0_0 fz0_0 bx0_1 fz0_1 bx0_2 fz0_2 bx0_3 fz0_3 bx0_4 fz0_4 bx0_5 fz0_5 bx0_6 fz0_6
      have bx0_0 := hk0.at_ 0 _ rfl
      have bx0_1 := hk0.at_ 1 _ rfl
      have bx0_2 := hk0.at_ 2 _ rfl
      have bx0_3 := hk0.at_ 3 _ rfl
      have bx0_4 := hk0.at_ 4 _ rfl
      have bx0_5 := hk0.at_ 5 _ rfl
      have bx0_6 := hk0.at_ 6 _ rfl
      refine bodyPost_ret (v := .tuple #[.agg #[.int .i64 0, .int .i64 0, .int .i64 0, .int .i64 0, .int .i64 0, .int .i64 0, .string ⟨#[]⟩], .bool false]) (by simp [results, Try.results74, go_sem, bx0_0, bx0_1, bx0_2, bx0_3, bx0_4, bx0_5, bx0_6]) rfl ?_
      exact ⟨rfl, k2⟩
  · have hok0 : okP s = false := by simp [okP, h20]
    rw [hok0]
    simp only [ipI_no hok0, ipT_no hok0]
    generalize g16 s 2 = n at *
    go_enter Try.func74, Try.ntmps74
    go_wp2_with fail
    have k0 : Below w.heap.size w (w.alloc (.cells #[.int .i64 0, .int .i64 0, .int .i64 0, .int .i64 0, .int .i64 0, .int .i64 0, .string ⟨#[]⟩] 110)) := by go_grown
    have bl0 : w.heap.size < (w.alloc (.cells #[.int .i64 0, .int .i64 0, .int .i64 0, .int .i64 0, .int .i64 0, .int .i64 0, .string ⟨#[]⟩] 110)).heap.size := by go_size
    have hk0 : Blk (w.alloc (.cells #[.int .i64 0, .int .i64 0, .int .i64 0, .int .i64 0, .int .i64 0, .int .i64 0, .string ⟨#[]⟩] 110)) (w.heap.size) 110 [.int .i64 0, .int .i64 0, .int .i64 0, .int .i64 0, .int .i64 0, .int .i64 0, .string ⟨#[]⟩] := by simpa using Blk.new w 110 [.int .i64 0, .int .i64 0, .int .i64 0, .int .i64 0, .int .i64 0, .int .i64 0, .string ⟨#[]⟩]
    have p0 := k0.size
    generalize hW0 : (w.alloc (.cells #[.int .i64 0, .int .i64 0, .int .i64 0, .int .i64 0, .int .i64 0, .int .i64 0, .string ⟨#[]⟩] 110)) = w0 at *
    clear hW0
    refine (hn _).mono ?_
    rintro e w1 ⟨rfl, hb⟩
    have k1 : Below w.heap.size w w1 := ext_step k0 (by omega) hb
    have p1 := hb.size
    replace hk0 := hk0.ext hb
    have bl0 := Nat.lt_of_lt_of_le bl0 hb.size
    clear hb
    have bx0_0 := hk0.at_ 0 _ rfl
    have fz0_0 := hk0.frozen 0
    have bx0_1 := hk0.at_ 1 _ rfl
    have fz0_1 := hk0.frozen 1
    have bx0_2 := hk0.at_ 2 _ rfl
    have fz0_2 := hk0.frozen 2
    have bx0_3 := hk0.at_ 3 _ rfl
    have fz0_3 := hk0.frozen 3
    have bx0_4 := hk0.at_ 4 _ rfl
    have fz0_4 := hk0.frozen 4
    have bx0_5 := hk0.at_ 5 _ rfl
    have fz0_5 := hk0.frozen 5
    have bx0_6 := hk0.at_ 6 _ rfl
    have fz0_6 := hk0.frozen 6
    go_wp2_with fail
    have hcc := ChgA.refl (w.heap.size) w1
    obtain ⟨w2_0, hW0⟩ : ∃ W, W = w1.setCell ⟨w.heap.size, 0, none⟩ (.int .i64 0) := ⟨_, rfl⟩
    replace hcc : ChgA (w.heap.size) w1 w2_0 := by rw [hW0]; exact hcc.set _ _
    replace hk0 : Blk w2_0 (w.heap.size) 110 [.int .i64 0, .int .i64 0, .int .i64 0, .int .i64 0, .int .i64 0, .int .i64 0, .string ⟨#[]⟩] := by rw [hW0]; exact hk0.set_ 0 _
    rw [← hW0]
    clear hW0
    obtain ⟨w2_1, hW0⟩ : ∃ W, W = w2_0.setCell ⟨w.heap.size, 1, none⟩ (.int .i64 0) := ⟨_, rfl⟩
    replace hcc : ChgA (w.heap.size) w1 w2_1 := by rw [hW0]; exact hcc.set _ _
    replace hk0 : Blk w2_1 (w.heap.size) 110 [.int .i64 0, .int .i64 0, .int .i64 0, .int .i64 0, .int .i64 0, .int .i64 0, .string ⟨#[]⟩] := by rw [hW0]; exact hk0.set_ 1 _
    rw [← hW0]
    clear hW0
    obtain ⟨w2_2, hW0⟩ : ∃ W, W = w2_1.setCell ⟨w.heap.size, 2, none⟩ (.int .i64 0) := ⟨_, rfl⟩
    replace hcc : ChgA (w.heap.size) w1 w2_2 := by rw [hW0]; exact hcc.set _ _
    replace hk0 : Blk w2_2 (w.heap.size) 110 [.int .i64 0, .int .i64 0, .int .i64 0, .int .i64 0, .int .i64 0, .int .i64 0, .string ⟨#[]⟩] := by rw [hW0]; exact hk0.set_ 2 _
    rw [← hW0]
    clear hW0
    obtain ⟨w2_3, hW0⟩ : ∃ W, W = w2_2.setCell ⟨w.heap.size, 3, none⟩ (.int .i64 0) := ⟨_, rfl⟩
    replace hcc : ChgA (w.heap.size) w1 w2_3 := by rw [hW0]; exact hcc.set _ _
    replace hk0 : Blk w2_3 (w.heap.size) 110 [.int .i64 0, .int .i64 0, .int .i64 0, .int .i64 0, .int .i64 0, .int .i64 0, .string ⟨#[]⟩] := by rw [hW0]; exact hk0.set_ 3 _
    rw [← hW0]
    clear hW0
    obtain ⟨w2_4, hW0⟩ : ∃ W, W = w2_3.setCell ⟨w.heap.size, 4, none⟩ (.int .i64 0) := ⟨_, rfl⟩
    replace hcc : ChgA (w.heap.size) w1 w2_4 := by rw [hW0]; exact hcc.set _ _
    replace hk0 : Blk w2_4 (w.heap.size) 110 [.int .i64 0, .int .i64 0, .int .i64 0, .int .i64 0, .int .i64 0, .int .i64 0, .string ⟨#[]⟩] := by rw [hW0]; exact hk0.set_ 4 _
    rw [← hW0]
    clear hW0
    obtain ⟨w2_5, hW0⟩ : ∃ W, W = w2_4.setCell ⟨w.heap.size, 5, none⟩ (.int .i64 0) := ⟨_, rfl⟩
    replace hcc : ChgA (w.heap.size) w1 w2_5 := by rw [hW0]; exact hcc.set _ _
    replace hk0 : Blk w2_5 (w.heap.size) 110 [.int .i64 0, .int .i64 0, .int .i64 0, .int .i64 0, .int .i64 0, .int .i64 0, .string ⟨#[]⟩] := by rw [hW0]; exact hk0.set_ 5 _
    rw [← hW0]
    clear hW0
    obtain ⟨w2, hW0⟩ : ∃ W, W = w2_5.setCell ⟨w.heap.size, 6, none⟩ (.string ⟨#[]⟩) := ⟨_, rfl⟩
    replace hcc : ChgA (w.heap.size) w1 w2 := by rw [hW0]; exact hcc.set _ _
    replace hk0 : Blk w2 (w.heap.size) 110 [.int .i64 0, .int .i64 0, .int .i64 0, .int .i64 0, .int .i64 0, .int .i64 0, .string ⟨#[]⟩] := by rw [hW0]; exact hk0.set_ 6 _
    rw [← hW0]
    clear hW0
    have hc := hcc
    have k2 := hc.below (by omega) k1
    have p2 := hc.size
    replace bl0 := Nat.lt_of_lt_of_le bl0 (Nat.le_of_eq p2.symm)
    clear hc hcc
    clear bx0_0 fz0_0 bx0_1 fz0_1 bx0_2 fz0_2 bx0_3 fz0_3 bx0_4 fz0_4 bx0_5 fz0_5 bx0_6 fz0_6
    have bx0_0 := hk0.at_ 0 _ rfl
    have bx0_1 := hk0.at_ 1 _ rfl
    have bx0_2 := hk0.at_ 2 _ rfl
    have bx0_3 := hk0.at_ 3 _ rfl
    have bx0_4 := hk0.at_ 4 _ rfl
    have bx0_5 := hk0.at_ 5 _ rfl
    have bx0_6 := hk0.at_ 6 _ rfl
    refine bodyPost_ret (v := .tuple #[.agg #[.int .i64 0, .int .i64 0, .int .i64 0, .int .i64 0, .int .i64 0, .int .i64 0, .string ⟨#[]⟩], .bool false]) (by simp [results, Try.results74, go_sem, bx0_0, bx0_1, bx0_2, bx0_3, bx0_4, bx0_5, bx0_6]) rfl ?_
    exact ⟨rfl, k2⟩
set_option maxRecDepth 100000 in
set_option maxHeartbeats 4000000 in
theorem specParseIp_c (s : ByteArray) (w : World) (hs : s.size ≤ 1048576) :
    Calls Try.prog 124 #[.string s] w fun e w' => e = .returned (.tuple #[.agg #[.int .i64 (ipI s (byt s 1)), .int .i64 (ipI s (g16 s 4)), .int .i64 (ipI s (byt s 8)), .int .i64 (ipI s (byt s 9)), .int .i64 (ipI s (g32 s 12)), .int .i64 (ipI s (g32 s 16)), .string (ipT s (bdP s))], .bool (okP s)]) ∧ Below w.heap.size w w' := by
  have hn := fun u => specGet16_c s 2 u hs ⟨by decide, by decide⟩
  have nb := g16_bd s 2
  by_cases h20 : 20 ≤ s.size
  · by_cases hlo : 20 ≤ g16 s 2
    · by_cases hhi : g16 s 2 ≤ (s.size : Int)
      · have z1 : (1 : Nat) < s.size := by omega
        have z8 : (8 : Nat) < s.size := by omega
        have z9 : (9 : Nat) < s.size := by omega
        have x1 := idxi (i := 1) (k := 1) rfl z1
        have x8 := idxi (i := 8) (k := 8) rfl z8
        have x9 := idxi (i := 9) (k := 9) rfl z9
        obtain ⟨y1, y2⟩ := byt_bd s 1
        obtain ⟨y3, y4⟩ := byt_bd s 8
        obtain ⟨y5, y6⟩ := byt_bd s 9
        obtain ⟨n, hnn⟩ : ∃ n, g16 s 2 = n := ⟨_, rfl⟩
        obtain ⟨B, hB⟩ : ∃ B, bdP s = B := ⟨_, rfl⟩
        have hB2 : s.extract 20 n.toNat = B := by rw [← hB, bdP, hnn]
        have hBs : B.size ≤ 1048576 := by rw [← hB2, ByteArray.size_extract]; omega
        have hcond : (decide (20 ≤ s.size) && decide (20 ≤ g16 s 2) && decide (g16 s 2 ≤ s.size)) = true := by rw [decide_eq_true h20, decide_eq_true hlo, decide_eq_true hhi]; rfl
        simp only [hnn] at hn hlo hhi nb
        have hbi := fun u => specBuildIp_c (byt s 1) (g16 s 4) (byt s 8) (byt s 9) (g32 s 12) (g32 s 16) B u hBs
        rw [hB]
        cases hip : ipB (byt s 1) (g16 s 4) (byt s 8) (byt s 9) (g32 s 12) (g32 s 16) B
        · have hok0 : okP s = false := by rw [okP, hcond, hB, hip]; rfl
          rw [hok0]
          simp only [hip, Bool.false_eq_true, if_false] at hbi
          clear hcond hip
          simp only [ipI_no hok0, ipT_no hok0]
          clear hok0
          go_enter Try.func124, Try.ntmps124
          go_wp2_with fail
          have k0 : Below w.heap.size w (w.alloc (.cells #[.int .i64 0, .int .i64 0, .int .i64 0, .int .i64 0, .int .i64 0, .int .i64 0, .string ⟨#[]⟩] 110)) := by go_grown
          have bl0 : w.heap.size < (w.alloc (.cells #[.int .i64 0, .int .i64 0, .int .i64 0, .int .i64 0, .int .i64 0, .int .i64 0, .string ⟨#[]⟩] 110)).heap.size := by go_size
          have hk0 : Blk (w.alloc (.cells #[.int .i64 0, .int .i64 0, .int .i64 0, .int .i64 0, .int .i64 0, .int .i64 0, .string ⟨#[]⟩] 110)) (w.heap.size) 110 [.int .i64 0, .int .i64 0, .int .i64 0, .int .i64 0, .int .i64 0, .int .i64 0, .string ⟨#[]⟩] := by simpa using Blk.new w 110 [.int .i64 0, .int .i64 0, .int .i64 0, .int .i64 0, .int .i64 0, .int .i64 0, .string ⟨#[]⟩]
          have p0 := k0.size
          generalize hW0 : (w.alloc (.cells #[.int .i64 0, .int .i64 0, .int .i64 0, .int .i64 0, .int .i64 0, .int .i64 0, .string ⟨#[]⟩] 110)) = w0 at *
          clear hW0
          refine (hn _).mono ?_
          rintro e w1 ⟨rfl, hb⟩
          have k1 : Below w.heap.size w w1 := ext_step k0 (by omega) hb
          have p1 := hb.size
          replace hk0 := hk0.ext hb
          have bl0 := Nat.lt_of_lt_of_le bl0 hb.size
          clear hb
          go_wp2_with fail
          have hBB : w.heap.size ≤ w1.heap.size := by omega
          refine wp_region_slotsS (w.heap.size) [(24, fun _ v => v = .string s), (25, fun _ v => v = .int .u8 (byt s 1)), (26, fun _ v => v = .int .i64 (byt s 1)), (27, fun _ v => v = .string s), (28, fun _ v => v = .int .i64 (g16 s 4)), (29, fun _ v => v = .string s), (30, fun _ v => v = .int .u8 (byt s 8)), (31, fun _ v => v = .int .i64 (byt s 8)), (32, fun _ v => v = .string s), (33, fun _ v => v = .int .u8 (byt s 9)), (34, fun _ v => v = .int .i64 (byt s 9)), (35, fun _ v => v = .string s), (36, fun _ v => v = .int .i64 (g32 s 12)), (37, fun _ v => v = .string s), (38, fun _ v => v = .int .i64 (g32 s 16)), (39, fun _ v => v = .string s), (40, fun _ v => v = .int .i64 n), (41, fun _ v => v = .string B), (42, fun _ v => v = .agg #[.int .i64 (byt s 1), .int .i64 (g16 s 4), .int .i64 (byt s 8), .int .i64 (byt s 9), .int .i64 (g32 s 12), .int .i64 (g32 s 16), .string B]), (5, BoxP w1.heap.size 110 7)] [⟨20, 5, fun _ => True, StoP w1.heap.size 110 [.int .i64 (byt s 1), .int .i64 (g16 s 4), .int .i64 (byt s 8), .int .i64 (byt s 9), .int .i64 (g32 s 12), .int .i64 (g32 s 16), .string B]⟩] (fun u => Blk u (w.heap.size) 110 [.int .i64 0, .int .i64 0, .int .i64 0, .int .i64 0, .int .i64 0, .int .i64 0, .string ⟨#[]⟩]) (by kernel_rfl) hBB (by kernel_rfl) (by kernel_rfl) (by kernel_rfl) (by kernel_rfl) ?_ ?_ ?_ ?_ ?_ ?_ ?_
          · intro p hp
            simp only [List.mem_cons, List.not_mem_nil, or_false] at hp
            rcases hp with rfl | rfl | rfl | rfl | rfl | rfl | rfl | rfl | rfl | rfl | rfl | rfl | rfl | rfl | rfl | rfl | rfl | rfl | rfl | rfl
            all_goals (intro u u' v hb hv; first | exact hv | exact BoxP.keep hv hb | exact RowP.keep hv hb)
          · intro s hs u u' hb
            simp only [List.mem_cons, List.not_mem_nil, or_false] at hs
            rcases hs with rfl
            all_goals (refine ⟨fun h => ?_, fun _ h => ?_⟩ <;> first | exact h | exact StoP.keep h hb | exact StoR.keep h hb | exact Blk.ext h hb | exact StaR.keep h hb)
          · intro s hs
            simp only [List.mem_cons, List.not_mem_nil, or_false] at hs
            rcases hs with rfl
            all_goals first | trivial
          · exact hk0
          · intro u u' hb hj
            have j0 := hj
            exact (j0.ext hb)
          · intro hGk hSk hJk
            refine allStep_cons (stepS_plain hGk hSk hBB hJk (by kernel_rfl) rfl ?_) ?_
            · intro a u hb hz hj hl hp K Q hK
              have e0 : a.tmps[0]?.getD undef = .string s := gd (hl 0 (by kernel_rfl))
              go_simp
              exact hK _ _ (Below.refl _ _) (by intro d hd; cases hd; exact rfl)
            refine allStep_cons (stepS_plain hGk hSk hBB hJk (by kernel_rfl) rfl ?_) ?_
            · intro a u hb hz hj hl hp K Q hK
              have e24 : a.tmps[24]?.getD undef = .string s := gd (hl 24 (by kernel_rfl))
              go_simp
              exact hK _ _ (Below.refl _ _) (by intro d hd; cases hd; exact rfl)
            refine allStep_cons (stepS_plain hGk hSk hBB hJk (by kernel_rfl) rfl ?_) ?_
            · intro a u hb hz hj hl hp K Q hK
              have e25 : a.tmps[25]?.getD undef = .int .u8 (byt s 1) := gd (hl 25 (by kernel_rfl))
              have ew : IntKind.i64.wrap (byt s 1) = byt s 1 := IntWalk.i64_in _ ⟨by omega, by omega⟩
              go_simp
              exact hK _ _ (Below.refl _ _) (by intro d hd; cases hd; exact rfl)
            refine allStep_cons (stepS_plain hGk hSk hBB hJk (by kernel_rfl) rfl ?_) ?_
            · intro a u hb hz hj hl hp K Q hK
              have e0 : a.tmps[0]?.getD undef = .string s := gd (hl 0 (by kernel_rfl))
              go_simp
              exact hK _ _ (Below.refl _ _) (by intro d hd; cases hd; exact rfl)
            refine allStep_cons (stepS_plain hGk hSk hBB hJk (by kernel_rfl) rfl ?_) ?_
            · intro a u hb hz hj hl hp K Q hK
              have e27 : a.tmps[27]?.getD undef = .string s := gd (hl 27 (by kernel_rfl))
              go_simp
              refine (specGet16_c s 4 _ hs ⟨by decide, by decide⟩).mono ?_
              rintro e u1 ⟨rfl, hb1⟩
              exact hK _ _ hb1 (by intro d hd; cases hd; exact rfl)
            refine allStep_cons (stepS_plain hGk hSk hBB hJk (by kernel_rfl) rfl ?_) ?_
            · intro a u hb hz hj hl hp K Q hK
              have e0 : a.tmps[0]?.getD undef = .string s := gd (hl 0 (by kernel_rfl))
              go_simp
              exact hK _ _ (Below.refl _ _) (by intro d hd; cases hd; exact rfl)
            refine allStep_cons (stepS_plain hGk hSk hBB hJk (by kernel_rfl) rfl ?_) ?_
            · intro a u hb hz hj hl hp K Q hK
              have e29 : a.tmps[29]?.getD undef = .string s := gd (hl 29 (by kernel_rfl))
              go_simp
              exact hK _ _ (Below.refl _ _) (by intro d hd; cases hd; exact rfl)
            refine allStep_cons (stepS_plain hGk hSk hBB hJk (by kernel_rfl) rfl ?_) ?_
            · intro a u hb hz hj hl hp K Q hK
              have e30 : a.tmps[30]?.getD undef = .int .u8 (byt s 8) := gd (hl 30 (by kernel_rfl))
              have ew : IntKind.i64.wrap (byt s 8) = byt s 8 := IntWalk.i64_in _ ⟨by omega, by omega⟩
              go_simp
              exact hK _ _ (Below.refl _ _) (by intro d hd; cases hd; exact rfl)
            refine allStep_cons (stepS_plain hGk hSk hBB hJk (by kernel_rfl) rfl ?_) ?_
            · intro a u hb hz hj hl hp K Q hK
              have e0 : a.tmps[0]?.getD undef = .string s := gd (hl 0 (by kernel_rfl))
              go_simp
              exact hK _ _ (Below.refl _ _) (by intro d hd; cases hd; exact rfl)
            refine allStep_cons (stepS_plain hGk hSk hBB hJk (by kernel_rfl) rfl ?_) ?_
            · intro a u hb hz hj hl hp K Q hK
              have e32 : a.tmps[32]?.getD undef = .string s := gd (hl 32 (by kernel_rfl))
              go_simp
              exact hK _ _ (Below.refl _ _) (by intro d hd; cases hd; exact rfl)
            refine allStep_cons (stepS_plain hGk hSk hBB hJk (by kernel_rfl) rfl ?_) ?_
            · intro a u hb hz hj hl hp K Q hK
              have e33 : a.tmps[33]?.getD undef = .int .u8 (byt s 9) := gd (hl 33 (by kernel_rfl))
              have ew : IntKind.i64.wrap (byt s 9) = byt s 9 := IntWalk.i64_in _ ⟨by omega, by omega⟩
              go_simp
              exact hK _ _ (Below.refl _ _) (by intro d hd; cases hd; exact rfl)
            refine allStep_cons (stepS_plain hGk hSk hBB hJk (by kernel_rfl) rfl ?_) ?_
            · intro a u hb hz hj hl hp K Q hK
              have e0 : a.tmps[0]?.getD undef = .string s := gd (hl 0 (by kernel_rfl))
              go_simp
              exact hK _ _ (Below.refl _ _) (by intro d hd; cases hd; exact rfl)
            refine allStep_cons (stepS_plain hGk hSk hBB hJk (by kernel_rfl) rfl ?_) ?_
            · intro a u hb hz hj hl hp K Q hK
              have e35 : a.tmps[35]?.getD undef = .string s := gd (hl 35 (by kernel_rfl))
              go_simp
              refine (specGet32_c s 12 _ hs ⟨by decide, by decide⟩).mono ?_
              rintro e u1 ⟨rfl, hb1⟩
              exact hK _ _ hb1 (by intro d hd; cases hd; exact rfl)
            refine allStep_cons (stepS_plain hGk hSk hBB hJk (by kernel_rfl) rfl ?_) ?_
            · intro a u hb hz hj hl hp K Q hK
              have e0 : a.tmps[0]?.getD undef = .string s := gd (hl 0 (by kernel_rfl))
              go_simp
              exact hK _ _ (Below.refl _ _) (by intro d hd; cases hd; exact rfl)
            refine allStep_cons (stepS_plain hGk hSk hBB hJk (by kernel_rfl) rfl ?_) ?_
            · intro a u hb hz hj hl hp K Q hK
              have e37 : a.tmps[37]?.getD undef = .string s := gd (hl 37 (by kernel_rfl))
              go_simp
              refine (specGet32_c s 16 _ hs ⟨by decide, by decide⟩).mono ?_
              rintro e u1 ⟨rfl, hb1⟩
              exact hK _ _ hb1 (by intro d hd; cases hd; exact rfl)
            refine allStep_cons (stepS_plain hGk hSk hBB hJk (by kernel_rfl) rfl ?_) ?_
            · intro a u hb hz hj hl hp K Q hK
              have e0 : a.tmps[0]?.getD undef = .string s := gd (hl 0 (by kernel_rfl))
              go_simp
              exact hK _ _ (Below.refl _ _) (by intro d hd; cases hd; exact rfl)
            refine allStep_cons (stepS_plain hGk hSk hBB hJk (by kernel_rfl) rfl ?_) ?_
            · intro a u hb hz hj hl hp K Q hK
              have e4 : a.tmps[4]?.getD undef = .int .i64 n := gd (hl 4 (by kernel_rfl))
              go_simp
              exact hK _ _ (Below.refl _ _) (by intro d hd; cases hd; exact rfl)
            refine allStep_cons (stepS_plain hGk hSk hBB hJk (by kernel_rfl) rfl ?_) ?_
            · intro a u hb hz hj hl hp K Q hK
              have e39 : a.tmps[39]?.getD undef = .string s := gd (hl 39 (by kernel_rfl))
              have e40 : a.tmps[40]?.getD undef = .int .i64 n := gd (hl 40 (by kernel_rfl))
              go_simp
              exact hK _ _ (Below.refl _ _) (by intro d hd; cases hd; exact rfl)
            refine allStep_cons (stepS_plain hGk hSk hBB hJk (by kernel_rfl) rfl ?_) ?_
            · intro a u hb hz hj hl hp K Q hK
              have e26 : a.tmps[26]?.getD undef = .int .i64 (byt s 1) := gd (hl 26 (by kernel_rfl))
              have e28 : a.tmps[28]?.getD undef = .int .i64 (g16 s 4) := gd (hl 28 (by kernel_rfl))
              have e31 : a.tmps[31]?.getD undef = .int .i64 (byt s 8) := gd (hl 31 (by kernel_rfl))
              have e34 : a.tmps[34]?.getD undef = .int .i64 (byt s 9) := gd (hl 34 (by kernel_rfl))
              have e36 : a.tmps[36]?.getD undef = .int .i64 (g32 s 12) := gd (hl 36 (by kernel_rfl))
              have e38 : a.tmps[38]?.getD undef = .int .i64 (g32 s 16) := gd (hl 38 (by kernel_rfl))
              have e41 : a.tmps[41]?.getD undef = .string B := gd (hl 41 (by kernel_rfl))
              go_simp
              exact hK _ _ (Below.refl _ _) (by intro d hd; cases hd; exact rfl)
            refine allStep_cons (stepS_plain hGk hSk hBB hJk (by kernel_rfl) rfl ?_) ?_
            · intro a u hb hz hj hl hp K Q hK
              go_simp
              exact hK _ _ (by go_grown) (by intro d hd; cases hd; exact BoxP.new _ _ [.int .i64 0, .int .i64 0, .int .i64 0, .int .i64 0, .int .i64 0, .int .i64 0, .string ⟨#[]⟩] (by omega) rfl)
            refine allStep_cons (stepS_store (Chg w1.heap.size 110) (fun _ _ hc hb => hc.below' (by omega) hb) (fun _ _ hc => hc.size) (hold_rel ?_) ?_ ?_ rfl rfl ?_) ?_
            · intro p hp
              simp only [List.mem_cons, List.not_mem_nil, or_false] at hp
              rcases hp with rfl | rfl | rfl | rfl | rfl | rfl | rfl | rfl | rfl | rfl | rfl | rfl | rfl | rfl | rfl | rfl | rfl | rfl | rfl | rfl
              all_goals (intro u u' v hb hv; first | exact hv | exact BoxP.chg hv hb | exact RowP.chg hv hb (by decide))
            · intro s hs hne u u' hb
              simp only [List.mem_cons, List.not_mem_nil, or_false] at hs
              rcases hs with rfl
              all_goals first | exact absurd (by rfl) hne | (refine ⟨fun h => ?_, fun _ h => ?_⟩ <;> first | exact h | exact StoP.chg h hb (by decide) | exact StoR.chg h hb (by decide) (by decide) | exact Blk.chgL h hb (by omega) | exact StaR.chgL h hb (by omega) (by decide))
            · intro u u' hb hj
              have j0 := hj
              exact (j0.chgL hb (by omega))
            · intro a u hb hz hj hl hp K Q hK
              obtain ⟨b, exb, hB, zs, hzl, hbk⟩ : BoxP w1.heap.size 110 7 u (a.tmps.getD 5 undef) := hl 5 (by kernel_rfl)
              have e5 := gd exb
              have e42 : a.tmps[42]?.getD undef = .agg #[.int .i64 (byt s 1), .int .i64 (g16 s 4), .int .i64 (byt s 8), .int .i64 (byt s 9), .int .i64 (g32 s 12), .int .i64 (g32 s 16), .string B] := gd (hl 42 (by kernel_rfl))
              obtain ⟨z0, z1, z2, z3, z4, z5, z6, rfl⟩ : ∃ z0 z1 z2 z3 z4 z5 z6, zs = [z0, z1, z2, z3, z4, z5, z6] := (by match zs, hzl with | [z0, z1, z2, z3, z4, z5, z6], _ => exact ⟨_, _, _, _, _, _, _, rfl⟩)
              have hlt := hbk.lt
              have g0 : u.cell? ⟨b, 0, none⟩ = some z0 := (hbk.cell 0).trans rfl
              have f0 := hbk.frozen 0
              have g1 : u.cell? ⟨b, 1, none⟩ = some z1 := (hbk.cell 1).trans rfl
              have f1 := hbk.frozen 1
              have g2 : u.cell? ⟨b, 2, none⟩ = some z2 := (hbk.cell 2).trans rfl
              have f2 := hbk.frozen 2
              have g3 : u.cell? ⟨b, 3, none⟩ = some z3 := (hbk.cell 3).trans rfl
              have f3 := hbk.frozen 3
              have g4 : u.cell? ⟨b, 4, none⟩ = some z4 := (hbk.cell 4).trans rfl
              have f4 := hbk.frozen 4
              have g5 : u.cell? ⟨b, 5, none⟩ = some z5 := (hbk.cell 5).trans rfl
              have f5 := hbk.frozen 5
              have g6 : u.cell? ⟨b, 6, none⟩ = some z6 := (hbk.cell 6).trans rfl
              have f6 := hbk.frozen 6
              go_simp
              refine hK undef _ ((((((((Chg.refl _ _ _).set hbk hB 0 _).set (hbk.set_ 0 _) hB 1 _).set ((hbk.set_ 0 _).set_ 1 _) hB 2 _).set (((hbk.set_ 0 _).set_ 1 _).set_ 2 _) hB 3 _).set ((((hbk.set_ 0 _).set_ 1 _).set_ 2 _).set_ 3 _) hB 4 _).set (((((hbk.set_ 0 _).set_ 1 _).set_ 2 _).set_ 3 _).set_ 4 _) hB 5 _).set ((((((hbk.set_ 0 _).set_ 1 _).set_ 2 _).set_ 3 _).set_ 4 _).set_ 5 _) hB 6 _) (fun s hs he => ?_)
              simp only [List.mem_cons, List.not_mem_nil, or_false] at hs
              rcases hs with rfl
              · exact ⟨b, exb, hB, (((((((hbk.set_ 0 _).set_ 1 _).set_ 2 _).set_ 3 _).set_ 4 _).set_ 5 _).set_ 6 _)⟩
            exact allStep_nil
          intro xT w2 hb hz hj hL hSt
          clear hk0
          have hk0 : (fun u => Blk u (w.heap.size) 110 [.int .i64 0, .int .i64 0, .int .i64 0, .int .i64 0, .int .i64 0, .int .i64 0, .string ⟨#[]⟩]) w2 := hj
          dsimp only at hk0
          obtain ⟨bk_1, fx5, lo1, hk1⟩ : StoP w1.heap.size 110 [.int .i64 (byt s 1), .int .i64 (g16 s 4), .int .i64 (byt s 8), .int .i64 (byt s 9), .int .i64 (g32 s 12), .int .i64 (g32 s 16), .string B] w2 (xT 5) := hSt _ (List.mem_of_getElem? (i := 0) rfl)
          simp only [List.map, putAll, fx5]
          have bl1 := hk1.lt
          have k2 : Below w.heap.size w w2 := k1.trans hb
          have p2 : w1.heap.size ≤ w2.heap.size := hb.size
          have bl0 := Nat.lt_of_lt_of_le bl0 hb.size
          clear hL hSt hb hz fx5
          have bx1_0 := hk1.at_ 0 _ rfl
          have bx1_1 := hk1.at_ 1 _ rfl
          have bx1_2 := hk1.at_ 2 _ rfl
          have bx1_3 := hk1.at_ 3 _ rfl
          have bx1_4 := hk1.at_ 4 _ rfl
          have bx1_5 := hk1.at_ 5 _ rfl
          have bx1_6 := hk1.at_ 6 _ rfl
          go_wp2_with fail
          refine (hbi _).mono ?_
          rintro e w3 ⟨rfl, hb⟩
          have k3 : Below w.heap.size w w3 := ext_step k2 (by omega) hb
          have p3 := hb.size
          replace hk0 := hk0.ext hb
          replace hk1 := hk1.ext hb
          clear bx1_0 bx1_1 bx1_2 bx1_3 bx1_4 bx1_5 bx1_6
          have bl0 := Nat.lt_of_lt_of_le bl0 hb.size
          have bl1 := Nat.lt_of_lt_of_le bl1 hb.size
          clear hb
          clear  hk1
          have bx0_0 := hk0.at_ 0 _ rfl
          have fz0_0 := hk0.frozen 0
          have bx0_1 := hk0.at_ 1 _ rfl
          have fz0_1 := hk0.frozen 1
          have bx0_2 := hk0.at_ 2 _ rfl
          have fz0_2 := hk0.frozen 2
          have bx0_3 := hk0.at_ 3 _ rfl
          have fz0_3 := hk0.frozen 3
          have bx0_4 := hk0.at_ 4 _ rfl
          have fz0_4 := hk0.frozen 4
          have bx0_5 := hk0.at_ 5 _ rfl
          have fz0_5 := hk0.frozen 5
          have bx0_6 := hk0.at_ 6 _ rfl
          have fz0_6 := hk0.frozen 6
          go_wp2_with fail
          have hcc := ChgA.refl (w.heap.size) w3
          obtain ⟨w4_0, hW0⟩ : ∃ W, W = w3.setCell ⟨w.heap.size, 0, none⟩ (.int .i64 0) := ⟨_, rfl⟩
          replace hcc : ChgA (w.heap.size) w3 w4_0 := by rw [hW0]; exact hcc.set _ _
          replace hk0 : Blk w4_0 (w.heap.size) 110 [.int .i64 0, .int .i64 0, .int .i64 0, .int .i64 0, .int .i64 0, .int .i64 0, .string ⟨#[]⟩] := by rw [hW0]; exact hk0.set_ 0 _
          rw [← hW0]
          clear hW0
          obtain ⟨w4_1, hW0⟩ : ∃ W, W = w4_0.setCell ⟨w.heap.size, 1, none⟩ (.int .i64 0) := ⟨_, rfl⟩
          replace hcc : ChgA (w.heap.size) w3 w4_1 := by rw [hW0]; exact hcc.set _ _
          replace hk0 : Blk w4_1 (w.heap.size) 110 [.int .i64 0, .int .i64 0, .int .i64 0, .int .i64 0, .int .i64 0, .int .i64 0, .string ⟨#[]⟩] := by rw [hW0]; exact hk0.set_ 1 _
          rw [← hW0]
          clear hW0
          obtain ⟨w4_2, hW0⟩ : ∃ W, W = w4_1.setCell ⟨w.heap.size, 2, none⟩ (.int .i64 0) := ⟨_, rfl⟩
          replace hcc : ChgA (w.heap.size) w3 w4_2 := by rw [hW0]; exact hcc.set _ _
          replace hk0 : Blk w4_2 (w.heap.size) 110 [.int .i64 0, .int .i64 0, .int .i64 0, .int .i64 0, .int .i64 0, .int .i64 0, .string ⟨#[]⟩] := by rw [hW0]; exact hk0.set_ 2 _
          rw [← hW0]
          clear hW0
          obtain ⟨w4_3, hW0⟩ : ∃ W, W = w4_2.setCell ⟨w.heap.size, 3, none⟩ (.int .i64 0) := ⟨_, rfl⟩
          replace hcc : ChgA (w.heap.size) w3 w4_3 := by rw [hW0]; exact hcc.set _ _
          replace hk0 : Blk w4_3 (w.heap.size) 110 [.int .i64 0, .int .i64 0, .int .i64 0, .int .i64 0, .int .i64 0, .int .i64 0, .string ⟨#[]⟩] := by rw [hW0]; exact hk0.set_ 3 _
          rw [← hW0]
          clear hW0
          obtain ⟨w4_4, hW0⟩ : ∃ W, W = w4_3.setCell ⟨w.heap.size, 4, none⟩ (.int .i64 0) := ⟨_, rfl⟩
          replace hcc : ChgA (w.heap.size) w3 w4_4 := by rw [hW0]; exact hcc.set _ _
          replace hk0 : Blk w4_4 (w.heap.size) 110 [.int .i64 0, .int .i64 0, .int .i64 0, .int .i64 0, .int .i64 0, .int .i64 0, .string ⟨#[]⟩] := by rw [hW0]; exact hk0.set_ 4 _
          rw [← hW0]
          clear hW0
          obtain ⟨w4_5, hW0⟩ : ∃ W, W = w4_4.setCell ⟨w.heap.size, 5, none⟩ (.int .i64 0) := ⟨_, rfl⟩
          replace hcc : ChgA (w.heap.size) w3 w4_5 := by rw [hW0]; exact hcc.set _ _
          replace hk0 : Blk w4_5 (w.heap.size) 110 [.int .i64 0, .int .i64 0, .int .i64 0, .int .i64 0, .int .i64 0, .int .i64 0, .string ⟨#[]⟩] := by rw [hW0]; exact hk0.set_ 5 _
          rw [← hW0]
          clear hW0
          obtain ⟨w4, hW0⟩ : ∃ W, W = w4_5.setCell ⟨w.heap.size, 6, none⟩ (.string ⟨#[]⟩) := ⟨_, rfl⟩
          replace hcc : ChgA (w.heap.size) w3 w4 := by rw [hW0]; exact hcc.set _ _
          replace hk0 : Blk w4 (w.heap.size) 110 [.int .i64 0, .int .i64 0, .int .i64 0, .int .i64 0, .int .i64 0, .int .i64 0, .string ⟨#[]⟩] := by rw [hW0]; exact hk0.set_ 6 _
          rw [← hW0]
          clear hW0
          have hc := hcc
          have k4 := hc.below (by omega) k3
          have p4 := hc.size
          replace bl0 := Nat.lt_of_lt_of_le bl0 (Nat.le_of_eq p4.symm)
          replace bl1 := Nat.lt_of_lt_of_le bl1 (Nat.le_of_eq p4.symm)
          clear hc hcc
          clear bx0_0 fz0_0 bx0_1 fz0_1 bx0_2 fz0_2 bx0_3 fz0_3 bx0_4 fz0_4 bx0_5 fz0_5 bx0_6 fz0_6
          have bx0_0 := hk0.at_ 0 _ rfl
          have bx0_1 := hk0.at_ 1 _ rfl
          have bx0_2 := hk0.at_ 2 _ rfl
          have bx0_3 := hk0.at_ 3 _ rfl
          have bx0_4 := hk0.at_ 4 _ rfl
          have bx0_5 := hk0.at_ 5 _ rfl
          have bx0_6 := hk0.at_ 6 _ rfl
          refine bodyPost_ret (v := .tuple #[.agg #[.int .i64 0, .int .i64 0, .int .i64 0, .int .i64 0, .int .i64 0, .int .i64 0, .string ⟨#[]⟩], .bool false]) (by simp [results, Try.results124, go_sem, bx0_0, bx0_1, bx0_2, bx0_3, bx0_4, bx0_5, bx0_6]) rfl ?_
          exact ⟨rfl, k4⟩
        · simp only [hip, if_true] at hbi
          obtain ⟨P, hP⟩ : ∃ P, ipS (byt s 1) (g16 s 4) (byt s 8) (byt s 9) (g32 s 12) (g32 s 16) B = P := ⟨_, rfl⟩
          simp only [hP] at hbi
          cases hc : P.toList == (s.extract 0 n.toNat).toList
          · have hok0 : okP s = false := by rw [okP, hcond, hB, hip, hP, hnn, hc]; rfl
            rw [hok0]
            clear hcond hip hP
            simp only [ipI_no hok0, ipT_no hok0]
            clear hok0
            go_enter Try.func124, Try.ntmps124
            go_wp2_with fail
            have k0 : Below w.heap.size w (w.alloc (.cells #[.int .i64 0, .int .i64 0, .int .i64 0, .int .i64 0, .int .i64 0, .int .i64 0, .string ⟨#[]⟩] 110)) := by go_grown
            have bl0 : w.heap.size < (w.alloc (.cells #[.int .i64 0, .int .i64 0, .int .i64 0, .int .i64 0, .int .i64 0, .int .i64 0, .string ⟨#[]⟩] 110)).heap.size := by go_size
            have hk0 : Blk (w.alloc (.cells #[.int .i64 0, .int .i64 0, .int .i64 0, .int .i64 0, .int .i64 0, .int .i64 0, .string ⟨#[]⟩] 110)) (w.heap.size) 110 [.int .i64 0, .int .i64 0, .int .i64 0, .int .i64 0, .int .i64 0, .int .i64 0, .string ⟨#[]⟩] := by simpa using Blk.new w 110 [.int .i64 0, .int .i64 0, .int .i64 0, .int .i64 0, .int .i64 0, .int .i64 0, .string ⟨#[]⟩]
            have p0 := k0.size
            generalize hW0 : (w.alloc (.cells #[.int .i64 0, .int .i64 0, .int .i64 0, .int .i64 0, .int .i64 0, .int .i64 0, .string ⟨#[]⟩] 110)) = w0 at *
            clear hW0
            refine (hn _).mono ?_
            rintro e w1 ⟨rfl, hb⟩
            have k1 : Below w.heap.size w w1 := ext_step k0 (by omega) hb
            have p1 := hb.size
            replace hk0 := hk0.ext hb
            have bl0 := Nat.lt_of_lt_of_le bl0 hb.size
            clear hb
            go_wp2_with fail
            have hBB : w.heap.size ≤ w1.heap.size := by omega
            refine wp_region_slotsS (w.heap.size) [(24, fun _ v => v = .string s), (25, fun _ v => v = .int .u8 (byt s 1)), (26, fun _ v => v = .int .i64 (byt s 1)), (27, fun _ v => v = .string s), (28, fun _ v => v = .int .i64 (g16 s 4)), (29, fun _ v => v = .string s), (30, fun _ v => v = .int .u8 (byt s 8)), (31, fun _ v => v = .int .i64 (byt s 8)), (32, fun _ v => v = .string s), (33, fun _ v => v = .int .u8 (byt s 9)), (34, fun _ v => v = .int .i64 (byt s 9)), (35, fun _ v => v = .string s), (36, fun _ v => v = .int .i64 (g32 s 12)), (37, fun _ v => v = .string s), (38, fun _ v => v = .int .i64 (g32 s 16)), (39, fun _ v => v = .string s), (40, fun _ v => v = .int .i64 n), (41, fun _ v => v = .string B), (42, fun _ v => v = .agg #[.int .i64 (byt s 1), .int .i64 (g16 s 4), .int .i64 (byt s 8), .int .i64 (byt s 9), .int .i64 (g32 s 12), .int .i64 (g32 s 16), .string B]), (5, BoxP w1.heap.size 110 7)] [⟨20, 5, fun _ => True, StoP w1.heap.size 110 [.int .i64 (byt s 1), .int .i64 (g16 s 4), .int .i64 (byt s 8), .int .i64 (byt s 9), .int .i64 (g32 s 12), .int .i64 (g32 s 16), .string B]⟩] (fun u => Blk u (w.heap.size) 110 [.int .i64 0, .int .i64 0, .int .i64 0, .int .i64 0, .int .i64 0, .int .i64 0, .string ⟨#[]⟩]) (by kernel_rfl) hBB (by kernel_rfl) (by kernel_rfl) (by kernel_rfl) (by kernel_rfl) ?_ ?_ ?_ ?_ ?_ ?_ ?_
            · intro p hp
              simp only [List.mem_cons, List.not_mem_nil, or_false] at hp
              rcases hp with rfl | rfl | rfl | rfl | rfl | rfl | rfl | rfl | rfl | rfl | rfl | rfl | rfl | rfl | rfl | rfl | rfl | rfl | rfl | rfl
              all_goals (intro u u' v hb hv; first | exact hv | exact BoxP.keep hv hb | exact RowP.keep hv hb)
            · intro s hs u u' hb
              simp only [List.mem_cons, List.not_mem_nil, or_false] at hs
              rcases hs with rfl
              all_goals (refine ⟨fun h => ?_, fun _ h => ?_⟩ <;> first | exact h | exact StoP.keep h hb | exact StoR.keep h hb | exact Blk.ext h hb | exact StaR.keep h hb)
            · intro s hs
              simp only [List.mem_cons, List.not_mem_nil, or_false] at hs
              rcases hs with rfl
              all_goals first | trivial
            · exact hk0
            · intro u u' hb hj
              have j0 := hj
              exact (j0.ext hb)
            · intro hGk hSk hJk
              refine allStep_cons (stepS_plain hGk hSk hBB hJk (by kernel_rfl) rfl ?_) ?_
              · intro a u hb hz hj hl hp K Q hK
                have e0 : a.tmps[0]?.getD undef = .string s := gd (hl 0 (by kernel_rfl))
                go_simp
                exact hK _ _ (Below.refl _ _) (by intro d hd; cases hd; exact rfl)
              refine allStep_cons (stepS_plain hGk hSk hBB hJk (by kernel_rfl) rfl ?_) ?_
              · intro a u hb hz hj hl hp K Q hK
                have e24 : a.tmps[24]?.getD undef = .string s := gd (hl 24 (by kernel_rfl))
                go_simp
                exact hK _ _ (Below.refl _ _) (by intro d hd; cases hd; exact rfl)
              refine allStep_cons (stepS_plain hGk hSk hBB hJk (by kernel_rfl) rfl ?_) ?_
              · intro a u hb hz hj hl hp K Q hK
                have e25 : a.tmps[25]?.getD undef = .int .u8 (byt s 1) := gd (hl 25 (by kernel_rfl))
                have ew : IntKind.i64.wrap (byt s 1) = byt s 1 := IntWalk.i64_in _ ⟨by omega, by omega⟩
                go_simp
                exact hK _ _ (Below.refl _ _) (by intro d hd; cases hd; exact rfl)
              refine allStep_cons (stepS_plain hGk hSk hBB hJk (by kernel_rfl) rfl ?_) ?_
              · intro a u hb hz hj hl hp K Q hK
                have e0 : a.tmps[0]?.getD undef = .string s := gd (hl 0 (by kernel_rfl))
                go_simp
                exact hK _ _ (Below.refl _ _) (by intro d hd; cases hd; exact rfl)
              refine allStep_cons (stepS_plain hGk hSk hBB hJk (by kernel_rfl) rfl ?_) ?_
              · intro a u hb hz hj hl hp K Q hK
                have e27 : a.tmps[27]?.getD undef = .string s := gd (hl 27 (by kernel_rfl))
                go_simp
                refine (specGet16_c s 4 _ hs ⟨by decide, by decide⟩).mono ?_
                rintro e u1 ⟨rfl, hb1⟩
                exact hK _ _ hb1 (by intro d hd; cases hd; exact rfl)
              refine allStep_cons (stepS_plain hGk hSk hBB hJk (by kernel_rfl) rfl ?_) ?_
              · intro a u hb hz hj hl hp K Q hK
                have e0 : a.tmps[0]?.getD undef = .string s := gd (hl 0 (by kernel_rfl))
                go_simp
                exact hK _ _ (Below.refl _ _) (by intro d hd; cases hd; exact rfl)
              refine allStep_cons (stepS_plain hGk hSk hBB hJk (by kernel_rfl) rfl ?_) ?_
              · intro a u hb hz hj hl hp K Q hK
                have e29 : a.tmps[29]?.getD undef = .string s := gd (hl 29 (by kernel_rfl))
                go_simp
                exact hK _ _ (Below.refl _ _) (by intro d hd; cases hd; exact rfl)
              refine allStep_cons (stepS_plain hGk hSk hBB hJk (by kernel_rfl) rfl ?_) ?_
              · intro a u hb hz hj hl hp K Q hK
                have e30 : a.tmps[30]?.getD undef = .int .u8 (byt s 8) := gd (hl 30 (by kernel_rfl))
                have ew : IntKind.i64.wrap (byt s 8) = byt s 8 := IntWalk.i64_in _ ⟨by omega, by omega⟩
                go_simp
                exact hK _ _ (Below.refl _ _) (by intro d hd; cases hd; exact rfl)
              refine allStep_cons (stepS_plain hGk hSk hBB hJk (by kernel_rfl) rfl ?_) ?_
              · intro a u hb hz hj hl hp K Q hK
                have e0 : a.tmps[0]?.getD undef = .string s := gd (hl 0 (by kernel_rfl))
                go_simp
                exact hK _ _ (Below.refl _ _) (by intro d hd; cases hd; exact rfl)
              refine allStep_cons (stepS_plain hGk hSk hBB hJk (by kernel_rfl) rfl ?_) ?_
              · intro a u hb hz hj hl hp K Q hK
                have e32 : a.tmps[32]?.getD undef = .string s := gd (hl 32 (by kernel_rfl))
                go_simp
                exact hK _ _ (Below.refl _ _) (by intro d hd; cases hd; exact rfl)
              refine allStep_cons (stepS_plain hGk hSk hBB hJk (by kernel_rfl) rfl ?_) ?_
              · intro a u hb hz hj hl hp K Q hK
                have e33 : a.tmps[33]?.getD undef = .int .u8 (byt s 9) := gd (hl 33 (by kernel_rfl))
                have ew : IntKind.i64.wrap (byt s 9) = byt s 9 := IntWalk.i64_in _ ⟨by omega, by omega⟩
                go_simp
                exact hK _ _ (Below.refl _ _) (by intro d hd; cases hd; exact rfl)
              refine allStep_cons (stepS_plain hGk hSk hBB hJk (by kernel_rfl) rfl ?_) ?_
              · intro a u hb hz hj hl hp K Q hK
                have e0 : a.tmps[0]?.getD undef = .string s := gd (hl 0 (by kernel_rfl))
                go_simp
                exact hK _ _ (Below.refl _ _) (by intro d hd; cases hd; exact rfl)
              refine allStep_cons (stepS_plain hGk hSk hBB hJk (by kernel_rfl) rfl ?_) ?_
              · intro a u hb hz hj hl hp K Q hK
                have e35 : a.tmps[35]?.getD undef = .string s := gd (hl 35 (by kernel_rfl))
                go_simp
                refine (specGet32_c s 12 _ hs ⟨by decide, by decide⟩).mono ?_
                rintro e u1 ⟨rfl, hb1⟩
                exact hK _ _ hb1 (by intro d hd; cases hd; exact rfl)
              refine allStep_cons (stepS_plain hGk hSk hBB hJk (by kernel_rfl) rfl ?_) ?_
              · intro a u hb hz hj hl hp K Q hK
                have e0 : a.tmps[0]?.getD undef = .string s := gd (hl 0 (by kernel_rfl))
                go_simp
                exact hK _ _ (Below.refl _ _) (by intro d hd; cases hd; exact rfl)
              refine allStep_cons (stepS_plain hGk hSk hBB hJk (by kernel_rfl) rfl ?_) ?_
              · intro a u hb hz hj hl hp K Q hK
                have e37 : a.tmps[37]?.getD undef = .string s := gd (hl 37 (by kernel_rfl))
                go_simp
                refine (specGet32_c s 16 _ hs ⟨by decide, by decide⟩).mono ?_
                rintro e u1 ⟨rfl, hb1⟩
                exact hK _ _ hb1 (by intro d hd; cases hd; exact rfl)
              refine allStep_cons (stepS_plain hGk hSk hBB hJk (by kernel_rfl) rfl ?_) ?_
              · intro a u hb hz hj hl hp K Q hK
                have e0 : a.tmps[0]?.getD undef = .string s := gd (hl 0 (by kernel_rfl))
                go_simp
                exact hK _ _ (Below.refl _ _) (by intro d hd; cases hd; exact rfl)
              refine allStep_cons (stepS_plain hGk hSk hBB hJk (by kernel_rfl) rfl ?_) ?_
              · intro a u hb hz hj hl hp K Q hK
                have e4 : a.tmps[4]?.getD undef = .int .i64 n := gd (hl 4 (by kernel_rfl))
                go_simp
                exact hK _ _ (Below.refl _ _) (by intro d hd; cases hd; exact rfl)
              refine allStep_cons (stepS_plain hGk hSk hBB hJk (by kernel_rfl) rfl ?_) ?_
              · intro a u hb hz hj hl hp K Q hK
                have e39 : a.tmps[39]?.getD undef = .string s := gd (hl 39 (by kernel_rfl))
                have e40 : a.tmps[40]?.getD undef = .int .i64 n := gd (hl 40 (by kernel_rfl))
                go_simp
                exact hK _ _ (Below.refl _ _) (by intro d hd; cases hd; exact rfl)
              refine allStep_cons (stepS_plain hGk hSk hBB hJk (by kernel_rfl) rfl ?_) ?_
              · intro a u hb hz hj hl hp K Q hK
                have e26 : a.tmps[26]?.getD undef = .int .i64 (byt s 1) := gd (hl 26 (by kernel_rfl))
                have e28 : a.tmps[28]?.getD undef = .int .i64 (g16 s 4) := gd (hl 28 (by kernel_rfl))
                have e31 : a.tmps[31]?.getD undef = .int .i64 (byt s 8) := gd (hl 31 (by kernel_rfl))
                have e34 : a.tmps[34]?.getD undef = .int .i64 (byt s 9) := gd (hl 34 (by kernel_rfl))
                have e36 : a.tmps[36]?.getD undef = .int .i64 (g32 s 12) := gd (hl 36 (by kernel_rfl))
                have e38 : a.tmps[38]?.getD undef = .int .i64 (g32 s 16) := gd (hl 38 (by kernel_rfl))
                have e41 : a.tmps[41]?.getD undef = .string B := gd (hl 41 (by kernel_rfl))
                go_simp
                exact hK _ _ (Below.refl _ _) (by intro d hd; cases hd; exact rfl)
              refine allStep_cons (stepS_plain hGk hSk hBB hJk (by kernel_rfl) rfl ?_) ?_
              · intro a u hb hz hj hl hp K Q hK
                go_simp
                exact hK _ _ (by go_grown) (by intro d hd; cases hd; exact BoxP.new _ _ [.int .i64 0, .int .i64 0, .int .i64 0, .int .i64 0, .int .i64 0, .int .i64 0, .string ⟨#[]⟩] (by omega) rfl)
              refine allStep_cons (stepS_store (Chg w1.heap.size 110) (fun _ _ hc hb => hc.below' (by omega) hb) (fun _ _ hc => hc.size) (hold_rel ?_) ?_ ?_ rfl rfl ?_) ?_
              · intro p hp
                simp only [List.mem_cons, List.not_mem_nil, or_false] at hp
                rcases hp with rfl | rfl | rfl | rfl | rfl | rfl | rfl | rfl | rfl | rfl | rfl | rfl | rfl | rfl | rfl | rfl | rfl | rfl | rfl | rfl
                all_goals (intro u u' v hb hv; first | exact hv | exact BoxP.chg hv hb | exact RowP.chg hv hb (by decide))
              · intro s hs hne u u' hb
                simp only [List.mem_cons, List.not_mem_nil, or_false] at hs
                rcases hs with rfl
                all_goals first | exact absurd (by rfl) hne | (refine ⟨fun h => ?_, fun _ h => ?_⟩ <;> first | exact h | exact StoP.chg h hb (by decide) | exact StoR.chg h hb (by decide) (by decide) | exact Blk.chgL h hb (by omega) | exact StaR.chgL h hb (by omega) (by decide))
              · intro u u' hb hj
                have j0 := hj
                exact (j0.chgL hb (by omega))
              · intro a u hb hz hj hl hp K Q hK
                obtain ⟨b, exb, hB, zs, hzl, hbk⟩ : BoxP w1.heap.size 110 7 u (a.tmps.getD 5 undef) := hl 5 (by kernel_rfl)
                have e5 := gd exb
                have e42 : a.tmps[42]?.getD undef = .agg #[.int .i64 (byt s 1), .int .i64 (g16 s 4), .int .i64 (byt s 8), .int .i64 (byt s 9), .int .i64 (g32 s 12), .int .i64 (g32 s 16), .string B] := gd (hl 42 (by kernel_rfl))
                obtain ⟨z0, z1, z2, z3, z4, z5, z6, rfl⟩ : ∃ z0 z1 z2 z3 z4 z5 z6, zs = [z0, z1, z2, z3, z4, z5, z6] := (by match zs, hzl with | [z0, z1, z2, z3, z4, z5, z6], _ => exact ⟨_, _, _, _, _, _, _, rfl⟩)
                have hlt := hbk.lt
                have g0 : u.cell? ⟨b, 0, none⟩ = some z0 := (hbk.cell 0).trans rfl
                have f0 := hbk.frozen 0
                have g1 : u.cell? ⟨b, 1, none⟩ = some z1 := (hbk.cell 1).trans rfl
                have f1 := hbk.frozen 1
                have g2 : u.cell? ⟨b, 2, none⟩ = some z2 := (hbk.cell 2).trans rfl
                have f2 := hbk.frozen 2
                have g3 : u.cell? ⟨b, 3, none⟩ = some z3 := (hbk.cell 3).trans rfl
                have f3 := hbk.frozen 3
                have g4 : u.cell? ⟨b, 4, none⟩ = some z4 := (hbk.cell 4).trans rfl
                have f4 := hbk.frozen 4
                have g5 : u.cell? ⟨b, 5, none⟩ = some z5 := (hbk.cell 5).trans rfl
                have f5 := hbk.frozen 5
                have g6 : u.cell? ⟨b, 6, none⟩ = some z6 := (hbk.cell 6).trans rfl
                have f6 := hbk.frozen 6
                go_simp
                refine hK undef _ ((((((((Chg.refl _ _ _).set hbk hB 0 _).set (hbk.set_ 0 _) hB 1 _).set ((hbk.set_ 0 _).set_ 1 _) hB 2 _).set (((hbk.set_ 0 _).set_ 1 _).set_ 2 _) hB 3 _).set ((((hbk.set_ 0 _).set_ 1 _).set_ 2 _).set_ 3 _) hB 4 _).set (((((hbk.set_ 0 _).set_ 1 _).set_ 2 _).set_ 3 _).set_ 4 _) hB 5 _).set ((((((hbk.set_ 0 _).set_ 1 _).set_ 2 _).set_ 3 _).set_ 4 _).set_ 5 _) hB 6 _) (fun s hs he => ?_)
                simp only [List.mem_cons, List.not_mem_nil, or_false] at hs
                rcases hs with rfl
                · exact ⟨b, exb, hB, (((((((hbk.set_ 0 _).set_ 1 _).set_ 2 _).set_ 3 _).set_ 4 _).set_ 5 _).set_ 6 _)⟩
              exact allStep_nil
            intro xT w2 hb hz hj hL hSt
            clear hk0
            have hk0 : (fun u => Blk u (w.heap.size) 110 [.int .i64 0, .int .i64 0, .int .i64 0, .int .i64 0, .int .i64 0, .int .i64 0, .string ⟨#[]⟩]) w2 := hj
            dsimp only at hk0
            obtain ⟨bk_1, fx5, lo1, hk1⟩ : StoP w1.heap.size 110 [.int .i64 (byt s 1), .int .i64 (g16 s 4), .int .i64 (byt s 8), .int .i64 (byt s 9), .int .i64 (g32 s 12), .int .i64 (g32 s 16), .string B] w2 (xT 5) := hSt _ (List.mem_of_getElem? (i := 0) rfl)
            simp only [List.map, putAll, fx5]
            have bl1 := hk1.lt
            have k2 : Below w.heap.size w w2 := k1.trans hb
            have p2 : w1.heap.size ≤ w2.heap.size := hb.size
            have bl0 := Nat.lt_of_lt_of_le bl0 hb.size
            clear hL hSt hb hz fx5
            have bx1_0 := hk1.at_ 0 _ rfl
            have bx1_1 := hk1.at_ 1 _ rfl
            have bx1_2 := hk1.at_ 2 _ rfl
            have bx1_3 := hk1.at_ 3 _ rfl
            have bx1_4 := hk1.at_ 4 _ rfl
            have bx1_5 := hk1.at_ 5 _ rfl
            have bx1_6 := hk1.at_ 6 _ rfl
            go_wp2_with fail
            refine (hbi _).mono ?_
            rintro e w3 ⟨rfl, hb⟩
            have k3 : Below w.heap.size w w3 := ext_step k2 (by omega) hb
            have p3 := hb.size
            replace hk0 := hk0.ext hb
            replace hk1 := hk1.ext hb
            clear bx1_0 bx1_1 bx1_2 bx1_3 bx1_4 bx1_5 bx1_6
            have bl0 := Nat.lt_of_lt_of_le bl0 hb.size
            have bl1 := Nat.lt_of_lt_of_le bl1 hb.size
            clear hb
            clear  hk1
            have bx0_0 := hk0.at_ 0 _ rfl
            have fz0_0 := hk0.frozen 0
            have bx0_1 := hk0.at_ 1 _ rfl
            have fz0_1 := hk0.frozen 1
            have bx0_2 := hk0.at_ 2 _ rfl
            have fz0_2 := hk0.frozen 2
            have bx0_3 := hk0.at_ 3 _ rfl
            have fz0_3 := hk0.frozen 3
            have bx0_4 := hk0.at_ 4 _ rfl
            have fz0_4 := hk0.frozen 4
            have bx0_5 := hk0.at_ 5 _ rfl
            have fz0_5 := hk0.frozen 5
            have bx0_6 := hk0.at_ 6 _ rfl
            have fz0_6 := hk0.frozen 6
            go_wp2_with fail
            have hcc := ChgA.refl (w.heap.size) w3
            obtain ⟨w4_0, hW0⟩ : ∃ W, W = w3.setCell ⟨w.heap.size, 0, none⟩ (.int .i64 0) := ⟨_, rfl⟩
            replace hcc : ChgA (w.heap.size) w3 w4_0 := by rw [hW0]; exact hcc.set _ _
            replace hk0 : Blk w4_0 (w.heap.size) 110 [.int .i64 0, .int .i64 0, .int .i64 0, .int .i64 0, .int .i64 0, .int .i64 0, .string ⟨#[]⟩] := by rw [hW0]; exact hk0.set_ 0 _
            rw [← hW0]
            clear hW0
            obtain ⟨w4_1, hW0⟩ : ∃ W, W = w4_0.setCell ⟨w.heap.size, 1, none⟩ (.int .i64 0) := ⟨_, rfl⟩
            replace hcc : ChgA (w.heap.size) w3 w4_1 := by rw [hW0]; exact hcc.set _ _
            replace hk0 : Blk w4_1 (w.heap.size) 110 [.int .i64 0, .int .i64 0, .int .i64 0, .int .i64 0, .int .i64 0, .int .i64 0, .string ⟨#[]⟩] := by rw [hW0]; exact hk0.set_ 1 _
            rw [← hW0]
            clear hW0
            obtain ⟨w4_2, hW0⟩ : ∃ W, W = w4_1.setCell ⟨w.heap.size, 2, none⟩ (.int .i64 0) := ⟨_, rfl⟩
            replace hcc : ChgA (w.heap.size) w3 w4_2 := by rw [hW0]; exact hcc.set _ _
            replace hk0 : Blk w4_2 (w.heap.size) 110 [.int .i64 0, .int .i64 0, .int .i64 0, .int .i64 0, .int .i64 0, .int .i64 0, .string ⟨#[]⟩] := by rw [hW0]; exact hk0.set_ 2 _
            rw [← hW0]
            clear hW0
            obtain ⟨w4_3, hW0⟩ : ∃ W, W = w4_2.setCell ⟨w.heap.size, 3, none⟩ (.int .i64 0) := ⟨_, rfl⟩
            replace hcc : ChgA (w.heap.size) w3 w4_3 := by rw [hW0]; exact hcc.set _ _
            replace hk0 : Blk w4_3 (w.heap.size) 110 [.int .i64 0, .int .i64 0, .int .i64 0, .int .i64 0, .int .i64 0, .int .i64 0, .string ⟨#[]⟩] := by rw [hW0]; exact hk0.set_ 3 _
            rw [← hW0]
            clear hW0
            obtain ⟨w4_4, hW0⟩ : ∃ W, W = w4_3.setCell ⟨w.heap.size, 4, none⟩ (.int .i64 0) := ⟨_, rfl⟩
            replace hcc : ChgA (w.heap.size) w3 w4_4 := by rw [hW0]; exact hcc.set _ _
            replace hk0 : Blk w4_4 (w.heap.size) 110 [.int .i64 0, .int .i64 0, .int .i64 0, .int .i64 0, .int .i64 0, .int .i64 0, .string ⟨#[]⟩] := by rw [hW0]; exact hk0.set_ 4 _
            rw [← hW0]
            clear hW0
            obtain ⟨w4_5, hW0⟩ : ∃ W, W = w4_4.setCell ⟨w.heap.size, 5, none⟩ (.int .i64 0) := ⟨_, rfl⟩
            replace hcc : ChgA (w.heap.size) w3 w4_5 := by rw [hW0]; exact hcc.set _ _
            replace hk0 : Blk w4_5 (w.heap.size) 110 [.int .i64 0, .int .i64 0, .int .i64 0, .int .i64 0, .int .i64 0, .int .i64 0, .string ⟨#[]⟩] := by rw [hW0]; exact hk0.set_ 5 _
            rw [← hW0]
            clear hW0
            obtain ⟨w4, hW0⟩ : ∃ W, W = w4_5.setCell ⟨w.heap.size, 6, none⟩ (.string ⟨#[]⟩) := ⟨_, rfl⟩
            replace hcc : ChgA (w.heap.size) w3 w4 := by rw [hW0]; exact hcc.set _ _
            replace hk0 : Blk w4 (w.heap.size) 110 [.int .i64 0, .int .i64 0, .int .i64 0, .int .i64 0, .int .i64 0, .int .i64 0, .string ⟨#[]⟩] := by rw [hW0]; exact hk0.set_ 6 _
            rw [← hW0]
            clear hW0
            have hc := hcc
            have k4 := hc.below (by omega) k3
            have p4 := hc.size
            replace bl0 := Nat.lt_of_lt_of_le bl0 (Nat.le_of_eq p4.symm)
            replace bl1 := Nat.lt_of_lt_of_le bl1 (Nat.le_of_eq p4.symm)
            clear hc hcc
            clear bx0_0 fz0_0 bx0_1 fz0_1 bx0_2 fz0_2 bx0_3 fz0_3 bx0_4 fz0_4 bx0_5 fz0_5 bx0_6 fz0_6
            have bx0_0 := hk0.at_ 0 _ rfl
            have bx0_1 := hk0.at_ 1 _ rfl
            have bx0_2 := hk0.at_ 2 _ rfl
            have bx0_3 := hk0.at_ 3 _ rfl
            have bx0_4 := hk0.at_ 4 _ rfl
            have bx0_5 := hk0.at_ 5 _ rfl
            have bx0_6 := hk0.at_ 6 _ rfl
            refine bodyPost_ret (v := .tuple #[.agg #[.int .i64 0, .int .i64 0, .int .i64 0, .int .i64 0, .int .i64 0, .int .i64 0, .string ⟨#[]⟩], .bool false]) (by simp [results, Try.results124, go_sem, bx0_0, bx0_1, bx0_2, bx0_3, bx0_4, bx0_5, bx0_6]) rfl ?_
            exact ⟨rfl, k4⟩
          · have hok0 : okP s = true := by rw [okP, hcond, hB, hip, hP, hnn, hc]; rfl
            rw [hok0]
            clear hcond hip hP
            simp only [ipI_yes hok0, ipT_yes hok0]
            clear hok0
            go_enter Try.func124, Try.ntmps124
            go_wp2_with fail
            have k0 : Below w.heap.size w (w.alloc (.cells #[.int .i64 0, .int .i64 0, .int .i64 0, .int .i64 0, .int .i64 0, .int .i64 0, .string ⟨#[]⟩] 110)) := by go_grown
            have bl0 : w.heap.size < (w.alloc (.cells #[.int .i64 0, .int .i64 0, .int .i64 0, .int .i64 0, .int .i64 0, .int .i64 0, .string ⟨#[]⟩] 110)).heap.size := by go_size
            have hk0 : Blk (w.alloc (.cells #[.int .i64 0, .int .i64 0, .int .i64 0, .int .i64 0, .int .i64 0, .int .i64 0, .string ⟨#[]⟩] 110)) (w.heap.size) 110 [.int .i64 0, .int .i64 0, .int .i64 0, .int .i64 0, .int .i64 0, .int .i64 0, .string ⟨#[]⟩] := by simpa using Blk.new w 110 [.int .i64 0, .int .i64 0, .int .i64 0, .int .i64 0, .int .i64 0, .int .i64 0, .string ⟨#[]⟩]
            have p0 := k0.size
            generalize hW0 : (w.alloc (.cells #[.int .i64 0, .int .i64 0, .int .i64 0, .int .i64 0, .int .i64 0, .int .i64 0, .string ⟨#[]⟩] 110)) = w0 at *
            clear hW0
            refine (hn _).mono ?_
            rintro e w1 ⟨rfl, hb⟩
            have k1 : Below w.heap.size w w1 := ext_step k0 (by omega) hb
            have p1 := hb.size
            replace hk0 := hk0.ext hb
            have bl0 := Nat.lt_of_lt_of_le bl0 hb.size
            clear hb
            go_wp2_with fail
            have hBB : w.heap.size ≤ w1.heap.size := by omega
            refine wp_region_slotsS (w.heap.size) [(24, fun _ v => v = .string s), (25, fun _ v => v = .int .u8 (byt s 1)), (26, fun _ v => v = .int .i64 (byt s 1)), (27, fun _ v => v = .string s), (28, fun _ v => v = .int .i64 (g16 s 4)), (29, fun _ v => v = .string s), (30, fun _ v => v = .int .u8 (byt s 8)), (31, fun _ v => v = .int .i64 (byt s 8)), (32, fun _ v => v = .string s), (33, fun _ v => v = .int .u8 (byt s 9)), (34, fun _ v => v = .int .i64 (byt s 9)), (35, fun _ v => v = .string s), (36, fun _ v => v = .int .i64 (g32 s 12)), (37, fun _ v => v = .string s), (38, fun _ v => v = .int .i64 (g32 s 16)), (39, fun _ v => v = .string s), (40, fun _ v => v = .int .i64 n), (41, fun _ v => v = .string B), (42, fun _ v => v = .agg #[.int .i64 (byt s 1), .int .i64 (g16 s 4), .int .i64 (byt s 8), .int .i64 (byt s 9), .int .i64 (g32 s 12), .int .i64 (g32 s 16), .string B]), (5, BoxP w1.heap.size 110 7)] [⟨20, 5, fun _ => True, StoP w1.heap.size 110 [.int .i64 (byt s 1), .int .i64 (g16 s 4), .int .i64 (byt s 8), .int .i64 (byt s 9), .int .i64 (g32 s 12), .int .i64 (g32 s 16), .string B]⟩] (fun u => Blk u (w.heap.size) 110 [.int .i64 0, .int .i64 0, .int .i64 0, .int .i64 0, .int .i64 0, .int .i64 0, .string ⟨#[]⟩]) (by kernel_rfl) hBB (by kernel_rfl) (by kernel_rfl) (by kernel_rfl) (by kernel_rfl) ?_ ?_ ?_ ?_ ?_ ?_ ?_
            · intro p hp
              simp only [List.mem_cons, List.not_mem_nil, or_false] at hp
              rcases hp with rfl | rfl | rfl | rfl | rfl | rfl | rfl | rfl | rfl | rfl | rfl | rfl | rfl | rfl | rfl | rfl | rfl | rfl | rfl | rfl
              all_goals (intro u u' v hb hv; first | exact hv | exact BoxP.keep hv hb | exact RowP.keep hv hb)
            · intro s hs u u' hb
              simp only [List.mem_cons, List.not_mem_nil, or_false] at hs
              rcases hs with rfl
              all_goals (refine ⟨fun h => ?_, fun _ h => ?_⟩ <;> first | exact h | exact StoP.keep h hb | exact StoR.keep h hb | exact Blk.ext h hb | exact StaR.keep h hb)
            · intro s hs
              simp only [List.mem_cons, List.not_mem_nil, or_false] at hs
              rcases hs with rfl
              all_goals first | trivial
            · exact hk0
            · intro u u' hb hj
              have j0 := hj
              exact (j0.ext hb)
            · intro hGk hSk hJk
              refine allStep_cons (stepS_plain hGk hSk hBB hJk (by kernel_rfl) rfl ?_) ?_
              · intro a u hb hz hj hl hp K Q hK
                have e0 : a.tmps[0]?.getD undef = .string s := gd (hl 0 (by kernel_rfl))
                go_simp
                exact hK _ _ (Below.refl _ _) (by intro d hd; cases hd; exact rfl)
              refine allStep_cons (stepS_plain hGk hSk hBB hJk (by kernel_rfl) rfl ?_) ?_
              · intro a u hb hz hj hl hp K Q hK
                have e24 : a.tmps[24]?.getD undef = .string s := gd (hl 24 (by kernel_rfl))
                go_simp
                exact hK _ _ (Below.refl _ _) (by intro d hd; cases hd; exact rfl)
              refine allStep_cons (stepS_plain hGk hSk hBB hJk (by kernel_rfl) rfl ?_) ?_
              · intro a u hb hz hj hl hp K Q hK
                have e25 : a.tmps[25]?.getD undef = .int .u8 (byt s 1) := gd (hl 25 (by kernel_rfl))
                have ew : IntKind.i64.wrap (byt s 1) = byt s 1 := IntWalk.i64_in _ ⟨by omega, by omega⟩
                go_simp
                exact hK _ _ (Below.refl _ _) (by intro d hd; cases hd; exact rfl)
              refine allStep_cons (stepS_plain hGk hSk hBB hJk (by kernel_rfl) rfl ?_) ?_
              · intro a u hb hz hj hl hp K Q hK
                have e0 : a.tmps[0]?.getD undef = .string s := gd (hl 0 (by kernel_rfl))
                go_simp
                exact hK _ _ (Below.refl _ _) (by intro d hd; cases hd; exact rfl)
              refine allStep_cons (stepS_plain hGk hSk hBB hJk (by kernel_rfl) rfl ?_) ?_
              · intro a u hb hz hj hl hp K Q hK
                have e27 : a.tmps[27]?.getD undef = .string s := gd (hl 27 (by kernel_rfl))
                go_simp
                refine (specGet16_c s 4 _ hs ⟨by decide, by decide⟩).mono ?_
                rintro e u1 ⟨rfl, hb1⟩
                exact hK _ _ hb1 (by intro d hd; cases hd; exact rfl)
              refine allStep_cons (stepS_plain hGk hSk hBB hJk (by kernel_rfl) rfl ?_) ?_
              · intro a u hb hz hj hl hp K Q hK
                have e0 : a.tmps[0]?.getD undef = .string s := gd (hl 0 (by kernel_rfl))
                go_simp
                exact hK _ _ (Below.refl _ _) (by intro d hd; cases hd; exact rfl)
              refine allStep_cons (stepS_plain hGk hSk hBB hJk (by kernel_rfl) rfl ?_) ?_
              · intro a u hb hz hj hl hp K Q hK
                have e29 : a.tmps[29]?.getD undef = .string s := gd (hl 29 (by kernel_rfl))
                go_simp
                exact hK _ _ (Below.refl _ _) (by intro d hd; cases hd; exact rfl)
              refine allStep_cons (stepS_plain hGk hSk hBB hJk (by kernel_rfl) rfl ?_) ?_
              · intro a u hb hz hj hl hp K Q hK
                have e30 : a.tmps[30]?.getD undef = .int .u8 (byt s 8) := gd (hl 30 (by kernel_rfl))
                have ew : IntKind.i64.wrap (byt s 8) = byt s 8 := IntWalk.i64_in _ ⟨by omega, by omega⟩
                go_simp
                exact hK _ _ (Below.refl _ _) (by intro d hd; cases hd; exact rfl)
              refine allStep_cons (stepS_plain hGk hSk hBB hJk (by kernel_rfl) rfl ?_) ?_
              · intro a u hb hz hj hl hp K Q hK
                have e0 : a.tmps[0]?.getD undef = .string s := gd (hl 0 (by kernel_rfl))
                go_simp
                exact hK _ _ (Below.refl _ _) (by intro d hd; cases hd; exact rfl)
              refine allStep_cons (stepS_plain hGk hSk hBB hJk (by kernel_rfl) rfl ?_) ?_
              · intro a u hb hz hj hl hp K Q hK
                have e32 : a.tmps[32]?.getD undef = .string s := gd (hl 32 (by kernel_rfl))
                go_simp
                exact hK _ _ (Below.refl _ _) (by intro d hd; cases hd; exact rfl)
              refine allStep_cons (stepS_plain hGk hSk hBB hJk (by kernel_rfl) rfl ?_) ?_
              · intro a u hb hz hj hl hp K Q hK
                have e33 : a.tmps[33]?.getD undef = .int .u8 (byt s 9) := gd (hl 33 (by kernel_rfl))
                have ew : IntKind.i64.wrap (byt s 9) = byt s 9 := IntWalk.i64_in _ ⟨by omega, by omega⟩
                go_simp
                exact hK _ _ (Below.refl _ _) (by intro d hd; cases hd; exact rfl)
              refine allStep_cons (stepS_plain hGk hSk hBB hJk (by kernel_rfl) rfl ?_) ?_
              · intro a u hb hz hj hl hp K Q hK
                have e0 : a.tmps[0]?.getD undef = .string s := gd (hl 0 (by kernel_rfl))
                go_simp
                exact hK _ _ (Below.refl _ _) (by intro d hd; cases hd; exact rfl)
              refine allStep_cons (stepS_plain hGk hSk hBB hJk (by kernel_rfl) rfl ?_) ?_
              · intro a u hb hz hj hl hp K Q hK
                have e35 : a.tmps[35]?.getD undef = .string s := gd (hl 35 (by kernel_rfl))
                go_simp
                refine (specGet32_c s 12 _ hs ⟨by decide, by decide⟩).mono ?_
                rintro e u1 ⟨rfl, hb1⟩
                exact hK _ _ hb1 (by intro d hd; cases hd; exact rfl)
              refine allStep_cons (stepS_plain hGk hSk hBB hJk (by kernel_rfl) rfl ?_) ?_
              · intro a u hb hz hj hl hp K Q hK
                have e0 : a.tmps[0]?.getD undef = .string s := gd (hl 0 (by kernel_rfl))
                go_simp
                exact hK _ _ (Below.refl _ _) (by intro d hd; cases hd; exact rfl)
              refine allStep_cons (stepS_plain hGk hSk hBB hJk (by kernel_rfl) rfl ?_) ?_
              · intro a u hb hz hj hl hp K Q hK
                have e37 : a.tmps[37]?.getD undef = .string s := gd (hl 37 (by kernel_rfl))
                go_simp
                refine (specGet32_c s 16 _ hs ⟨by decide, by decide⟩).mono ?_
                rintro e u1 ⟨rfl, hb1⟩
                exact hK _ _ hb1 (by intro d hd; cases hd; exact rfl)
              refine allStep_cons (stepS_plain hGk hSk hBB hJk (by kernel_rfl) rfl ?_) ?_
              · intro a u hb hz hj hl hp K Q hK
                have e0 : a.tmps[0]?.getD undef = .string s := gd (hl 0 (by kernel_rfl))
                go_simp
                exact hK _ _ (Below.refl _ _) (by intro d hd; cases hd; exact rfl)
              refine allStep_cons (stepS_plain hGk hSk hBB hJk (by kernel_rfl) rfl ?_) ?_
              · intro a u hb hz hj hl hp K Q hK
                have e4 : a.tmps[4]?.getD undef = .int .i64 n := gd (hl 4 (by kernel_rfl))
                go_simp
                exact hK _ _ (Below.refl _ _) (by intro d hd; cases hd; exact rfl)
              refine allStep_cons (stepS_plain hGk hSk hBB hJk (by kernel_rfl) rfl ?_) ?_
              · intro a u hb hz hj hl hp K Q hK
                have e39 : a.tmps[39]?.getD undef = .string s := gd (hl 39 (by kernel_rfl))
                have e40 : a.tmps[40]?.getD undef = .int .i64 n := gd (hl 40 (by kernel_rfl))
                go_simp
                exact hK _ _ (Below.refl _ _) (by intro d hd; cases hd; exact rfl)
              refine allStep_cons (stepS_plain hGk hSk hBB hJk (by kernel_rfl) rfl ?_) ?_
              · intro a u hb hz hj hl hp K Q hK
                have e26 : a.tmps[26]?.getD undef = .int .i64 (byt s 1) := gd (hl 26 (by kernel_rfl))
                have e28 : a.tmps[28]?.getD undef = .int .i64 (g16 s 4) := gd (hl 28 (by kernel_rfl))
                have e31 : a.tmps[31]?.getD undef = .int .i64 (byt s 8) := gd (hl 31 (by kernel_rfl))
                have e34 : a.tmps[34]?.getD undef = .int .i64 (byt s 9) := gd (hl 34 (by kernel_rfl))
                have e36 : a.tmps[36]?.getD undef = .int .i64 (g32 s 12) := gd (hl 36 (by kernel_rfl))
                have e38 : a.tmps[38]?.getD undef = .int .i64 (g32 s 16) := gd (hl 38 (by kernel_rfl))
                have e41 : a.tmps[41]?.getD undef = .string B := gd (hl 41 (by kernel_rfl))
                go_simp
                exact hK _ _ (Below.refl _ _) (by intro d hd; cases hd; exact rfl)
              refine allStep_cons (stepS_plain hGk hSk hBB hJk (by kernel_rfl) rfl ?_) ?_
              · intro a u hb hz hj hl hp K Q hK
                go_simp
                exact hK _ _ (by go_grown) (by intro d hd; cases hd; exact BoxP.new _ _ [.int .i64 0, .int .i64 0, .int .i64 0, .int .i64 0, .int .i64 0, .int .i64 0, .string ⟨#[]⟩] (by omega) rfl)
              refine allStep_cons (stepS_store (Chg w1.heap.size 110) (fun _ _ hc hb => hc.below' (by omega) hb) (fun _ _ hc => hc.size) (hold_rel ?_) ?_ ?_ rfl rfl ?_) ?_
              · intro p hp
                simp only [List.mem_cons, List.not_mem_nil, or_false] at hp
                rcases hp with rfl | rfl | rfl | rfl | rfl | rfl | rfl | rfl | rfl | rfl | rfl | rfl | rfl | rfl | rfl | rfl | rfl | rfl | rfl | rfl
                all_goals (intro u u' v hb hv; first | exact hv | exact BoxP.chg hv hb | exact RowP.chg hv hb (by decide))
              · intro s hs hne u u' hb
                simp only [List.mem_cons, List.not_mem_nil, or_false] at hs
                rcases hs with rfl
                all_goals first | exact absurd (by rfl) hne | (refine ⟨fun h => ?_, fun _ h => ?_⟩ <;> first | exact h | exact StoP.chg h hb (by decide) | exact StoR.chg h hb (by decide) (by decide) | exact Blk.chgL h hb (by omega) | exact StaR.chgL h hb (by omega) (by decide))
              · intro u u' hb hj
                have j0 := hj
                exact (j0.chgL hb (by omega))
              · intro a u hb hz hj hl hp K Q hK
                obtain ⟨b, exb, hB, zs, hzl, hbk⟩ : BoxP w1.heap.size 110 7 u (a.tmps.getD 5 undef) := hl 5 (by kernel_rfl)
                have e5 := gd exb
                have e42 : a.tmps[42]?.getD undef = .agg #[.int .i64 (byt s 1), .int .i64 (g16 s 4), .int .i64 (byt s 8), .int .i64 (byt s 9), .int .i64 (g32 s 12), .int .i64 (g32 s 16), .string B] := gd (hl 42 (by kernel_rfl))
                obtain ⟨z0, z1, z2, z3, z4, z5, z6, rfl⟩ : ∃ z0 z1 z2 z3 z4 z5 z6, zs = [z0, z1, z2, z3, z4, z5, z6] := (by match zs, hzl with | [z0, z1, z2, z3, z4, z5, z6], _ => exact ⟨_, _, _, _, _, _, _, rfl⟩)
                have hlt := hbk.lt
                have g0 : u.cell? ⟨b, 0, none⟩ = some z0 := (hbk.cell 0).trans rfl
                have f0 := hbk.frozen 0
                have g1 : u.cell? ⟨b, 1, none⟩ = some z1 := (hbk.cell 1).trans rfl
                have f1 := hbk.frozen 1
                have g2 : u.cell? ⟨b, 2, none⟩ = some z2 := (hbk.cell 2).trans rfl
                have f2 := hbk.frozen 2
                have g3 : u.cell? ⟨b, 3, none⟩ = some z3 := (hbk.cell 3).trans rfl
                have f3 := hbk.frozen 3
                have g4 : u.cell? ⟨b, 4, none⟩ = some z4 := (hbk.cell 4).trans rfl
                have f4 := hbk.frozen 4
                have g5 : u.cell? ⟨b, 5, none⟩ = some z5 := (hbk.cell 5).trans rfl
                have f5 := hbk.frozen 5
                have g6 : u.cell? ⟨b, 6, none⟩ = some z6 := (hbk.cell 6).trans rfl
                have f6 := hbk.frozen 6
                go_simp
                refine hK undef _ ((((((((Chg.refl _ _ _).set hbk hB 0 _).set (hbk.set_ 0 _) hB 1 _).set ((hbk.set_ 0 _).set_ 1 _) hB 2 _).set (((hbk.set_ 0 _).set_ 1 _).set_ 2 _) hB 3 _).set ((((hbk.set_ 0 _).set_ 1 _).set_ 2 _).set_ 3 _) hB 4 _).set (((((hbk.set_ 0 _).set_ 1 _).set_ 2 _).set_ 3 _).set_ 4 _) hB 5 _).set ((((((hbk.set_ 0 _).set_ 1 _).set_ 2 _).set_ 3 _).set_ 4 _).set_ 5 _) hB 6 _) (fun s hs he => ?_)
                simp only [List.mem_cons, List.not_mem_nil, or_false] at hs
                rcases hs with rfl
                · exact ⟨b, exb, hB, (((((((hbk.set_ 0 _).set_ 1 _).set_ 2 _).set_ 3 _).set_ 4 _).set_ 5 _).set_ 6 _)⟩
              exact allStep_nil
            intro xT w2 hb hz hj hL hSt
            clear hk0
            have hk0 : (fun u => Blk u (w.heap.size) 110 [.int .i64 0, .int .i64 0, .int .i64 0, .int .i64 0, .int .i64 0, .int .i64 0, .string ⟨#[]⟩]) w2 := hj
            dsimp only at hk0
            obtain ⟨bk_1, fx5, lo1, hk1⟩ : StoP w1.heap.size 110 [.int .i64 (byt s 1), .int .i64 (g16 s 4), .int .i64 (byt s 8), .int .i64 (byt s 9), .int .i64 (g32 s 12), .int .i64 (g32 s 16), .string B] w2 (xT 5) := hSt _ (List.mem_of_getElem? (i := 0) rfl)
            simp only [List.map, putAll, fx5]
            have bl1 := hk1.lt
            have k2 : Below w.heap.size w w2 := k1.trans hb
            have p2 : w1.heap.size ≤ w2.heap.size := hb.size
            have bl0 := Nat.lt_of_lt_of_le bl0 hb.size
            clear hL hSt hb hz fx5
            have bx1_0 := hk1.at_ 0 _ rfl
            have bx1_1 := hk1.at_ 1 _ rfl
            have bx1_2 := hk1.at_ 2 _ rfl
            have bx1_3 := hk1.at_ 3 _ rfl
            have bx1_4 := hk1.at_ 4 _ rfl
            have bx1_5 := hk1.at_ 5 _ rfl
            have bx1_6 := hk1.at_ 6 _ rfl
            go_wp2_with fail
            refine (hbi _).mono ?_
            rintro e w3 ⟨rfl, hb⟩
            have k3 : Below w.heap.size w w3 := ext_step k2 (by omega) hb
            have p3 := hb.size
            replace hk0 := hk0.ext hb
            replace hk1 := hk1.ext hb
            clear bx1_0 bx1_1 bx1_2 bx1_3 bx1_4 bx1_5 bx1_6
            have bl0 := Nat.lt_of_lt_of_le bl0 hb.size
            have bl1 := Nat.lt_of_lt_of_le bl1 hb.size
            clear hb
            have bx1_0 := hk1.at_ 0 _ rfl
            have bx1_1 := hk1.at_ 1 _ rfl
            have bx1_2 := hk1.at_ 2 _ rfl
            have bx1_3 := hk1.at_ 3 _ rfl
            have bx1_4 := hk1.at_ 4 _ rfl
            have bx1_5 := hk1.at_ 5 _ rfl
            have bx1_6 := hk1.at_ 6 _ rfl
            have bx0_0 := hk0.at_ 0 _ rfl
            have fz0_0 := hk0.frozen 0
            have bx0_1 := hk0.at_ 1 _ rfl
            have fz0_1 := hk0.frozen 1
            have bx0_2 := hk0.at_ 2 _ rfl
            have fz0_2 := hk0.frozen 2
            have bx0_3 := hk0.at_ 3 _ rfl
            have fz0_3 := hk0.frozen 3
            have bx0_4 := hk0.at_ 4 _ rfl
            have fz0_4 := hk0.frozen 4
            have bx0_5 := hk0.at_ 5 _ rfl
            have fz0_5 := hk0.frozen 5
            have bx0_6 := hk0.at_ 6 _ rfl
            have fz0_6 := hk0.frozen 6
            go_wp2_with fail
            clear bx1_0 bx1_1 bx1_2 bx1_3 bx1_4 bx1_5 bx1_6 hk1
            have hcc := ChgA.refl (w.heap.size) w3
            obtain ⟨w4_0, hW0⟩ : ∃ W, W = w3.setCell ⟨w.heap.size, 0, none⟩ (.int .i64 (byt s 1)) := ⟨_, rfl⟩
            replace hcc : ChgA (w.heap.size) w3 w4_0 := by rw [hW0]; exact hcc.set _ _
            replace hk0 : Blk w4_0 (w.heap.size) 110 [.int .i64 (byt s 1), .int .i64 0, .int .i64 0, .int .i64 0, .int .i64 0, .int .i64 0, .string ⟨#[]⟩] := by rw [hW0]; exact hk0.set_ 0 _
            rw [← hW0]
            clear hW0
            obtain ⟨w4_1, hW0⟩ : ∃ W, W = w4_0.setCell ⟨w.heap.size, 1, none⟩ (.int .i64 (g16 s 4)) := ⟨_, rfl⟩
            replace hcc : ChgA (w.heap.size) w3 w4_1 := by rw [hW0]; exact hcc.set _ _
            replace hk0 : Blk w4_1 (w.heap.size) 110 [.int .i64 (byt s 1), .int .i64 (g16 s 4), .int .i64 0, .int .i64 0, .int .i64 0, .int .i64 0, .string ⟨#[]⟩] := by rw [hW0]; exact hk0.set_ 1 _
            rw [← hW0]
            clear hW0
            obtain ⟨w4_2, hW0⟩ : ∃ W, W = w4_1.setCell ⟨w.heap.size, 2, none⟩ (.int .i64 (byt s 8)) := ⟨_, rfl⟩
            replace hcc : ChgA (w.heap.size) w3 w4_2 := by rw [hW0]; exact hcc.set _ _
            replace hk0 : Blk w4_2 (w.heap.size) 110 [.int .i64 (byt s 1), .int .i64 (g16 s 4), .int .i64 (byt s 8), .int .i64 0, .int .i64 0, .int .i64 0, .string ⟨#[]⟩] := by rw [hW0]; exact hk0.set_ 2 _
            rw [← hW0]
            clear hW0
            obtain ⟨w4_3, hW0⟩ : ∃ W, W = w4_2.setCell ⟨w.heap.size, 3, none⟩ (.int .i64 (byt s 9)) := ⟨_, rfl⟩
            replace hcc : ChgA (w.heap.size) w3 w4_3 := by rw [hW0]; exact hcc.set _ _
            replace hk0 : Blk w4_3 (w.heap.size) 110 [.int .i64 (byt s 1), .int .i64 (g16 s 4), .int .i64 (byt s 8), .int .i64 (byt s 9), .int .i64 0, .int .i64 0, .string ⟨#[]⟩] := by rw [hW0]; exact hk0.set_ 3 _
            rw [← hW0]
            clear hW0
            obtain ⟨w4_4, hW0⟩ : ∃ W, W = w4_3.setCell ⟨w.heap.size, 4, none⟩ (.int .i64 (g32 s 12)) := ⟨_, rfl⟩
            replace hcc : ChgA (w.heap.size) w3 w4_4 := by rw [hW0]; exact hcc.set _ _
            replace hk0 : Blk w4_4 (w.heap.size) 110 [.int .i64 (byt s 1), .int .i64 (g16 s 4), .int .i64 (byt s 8), .int .i64 (byt s 9), .int .i64 (g32 s 12), .int .i64 0, .string ⟨#[]⟩] := by rw [hW0]; exact hk0.set_ 4 _
            rw [← hW0]
            clear hW0
            obtain ⟨w4_5, hW0⟩ : ∃ W, W = w4_4.setCell ⟨w.heap.size, 5, none⟩ (.int .i64 (g32 s 16)) := ⟨_, rfl⟩
            replace hcc : ChgA (w.heap.size) w3 w4_5 := by rw [hW0]; exact hcc.set _ _
            replace hk0 : Blk w4_5 (w.heap.size) 110 [.int .i64 (byt s 1), .int .i64 (g16 s 4), .int .i64 (byt s 8), .int .i64 (byt s 9), .int .i64 (g32 s 12), .int .i64 (g32 s 16), .string ⟨#[]⟩] := by rw [hW0]; exact hk0.set_ 5 _
            rw [← hW0]
            clear hW0
            obtain ⟨w4, hW0⟩ : ∃ W, W = w4_5.setCell ⟨w.heap.size, 6, none⟩ (.string B) := ⟨_, rfl⟩
            replace hcc : ChgA (w.heap.size) w3 w4 := by rw [hW0]; exact hcc.set _ _
            replace hk0 : Blk w4 (w.heap.size) 110 [.int .i64 (byt s 1), .int .i64 (g16 s 4), .int .i64 (byt s 8), .int .i64 (byt s 9), .int .i64 (g32 s 12), .int .i64 (g32 s 16), .string B] := by rw [hW0]; exact hk0.set_ 6 _
            rw [← hW0]
            clear hW0
            have hc := hcc
            have k4 := hc.below (by omega) k3
            have p4 := hc.size
            replace bl0 := Nat.lt_of_lt_of_le bl0 (Nat.le_of_eq p4.symm)
            replace bl1 := Nat.lt_of_lt_of_le bl1 (Nat.le_of_eq p4.symm)
            clear hc hcc
            clear bx0_0 fz0_0 bx0_1 fz0_1 bx0_2 fz0_2 bx0_3 fz0_3 bx0_4 fz0_4 bx0_5 fz0_5 bx0_6 fz0_6
            have bx0_0 := hk0.at_ 0 _ rfl
            have bx0_1 := hk0.at_ 1 _ rfl
            have bx0_2 := hk0.at_ 2 _ rfl
            have bx0_3 := hk0.at_ 3 _ rfl
            have bx0_4 := hk0.at_ 4 _ rfl
            have bx0_5 := hk0.at_ 5 _ rfl
            have bx0_6 := hk0.at_ 6 _ rfl
            refine bodyPost_ret (v := .tuple #[.agg #[.int .i64 (byt s 1), .int .i64 (g16 s 4), .int .i64 (byt s 8), .int .i64 (byt s 9), .int .i64 (g32 s 12), .int .i64 (g32 s 16), .string B], .bool true]) (by simp [results, Try.results124, go_sem, bx0_0, bx0_1, bx0_2, bx0_3, bx0_4, bx0_5, bx0_6]) rfl ?_
            exact ⟨rfl, k4⟩
      · have hok0 : okP s = false := by simp [okP, hhi]
        rw [hok0]
        simp only [ipI_no hok0, ipT_no hok0]
        generalize g16 s 2 = n at *
        go_enter Try.func124, Try.ntmps124
        go_wp2_with fail
        have k0 : Below w.heap.size w (w.alloc (.cells #[.int .i64 0, .int .i64 0, .int .i64 0, .int .i64 0, .int .i64 0, .int .i64 0, .string ⟨#[]⟩] 110)) := by go_grown
        have bl0 : w.heap.size < (w.alloc (.cells #[.int .i64 0, .int .i64 0, .int .i64 0, .int .i64 0, .int .i64 0, .int .i64 0, .string ⟨#[]⟩] 110)).heap.size := by go_size
        have hk0 : Blk (w.alloc (.cells #[.int .i64 0, .int .i64 0, .int .i64 0, .int .i64 0, .int .i64 0, .int .i64 0, .string ⟨#[]⟩] 110)) (w.heap.size) 110 [.int .i64 0, .int .i64 0, .int .i64 0, .int .i64 0, .int .i64 0, .int .i64 0, .string ⟨#[]⟩] := by simpa using Blk.new w 110 [.int .i64 0, .int .i64 0, .int .i64 0, .int .i64 0, .int .i64 0, .int .i64 0, .string ⟨#[]⟩]
        have p0 := k0.size
        generalize hW0 : (w.alloc (.cells #[.int .i64 0, .int .i64 0, .int .i64 0, .int .i64 0, .int .i64 0, .int .i64 0, .string ⟨#[]⟩] 110)) = w0 at *
        clear hW0
        refine (hn _).mono ?_
        rintro e w1 ⟨rfl, hb⟩
        have k1 : Below w.heap.size w w1 := ext_step k0 (by omega) hb
        have p1 := hb.size
        replace hk0 := hk0.ext hb
        have bl0 := Nat.lt_of_lt_of_le bl0 hb.size
        clear hb
        have bx0_0 := hk0.at_ 0 _ rfl
        have fz0_0 := hk0.frozen 0
        have bx0_1 := hk0.at_ 1 _ rfl
        have fz0_1 := hk0.frozen 1
        have bx0_2 := hk0.at_ 2 _ rfl
        have fz0_2 := hk0.frozen 2
        have bx0_3 := hk0.at_ 3 _ rfl
        have fz0_3 := hk0.frozen 3
        have bx0_4 := hk0.at_ 4 _ rfl
        have fz0_4 := hk0.frozen 4
        have bx0_5 := hk0.at_ 5 _ rfl
        have fz0_5 := hk0.frozen 5
        have bx0_6 := hk0.at_ 6 _ rfl
        have fz0_6 := hk0.frozen 6
        go_wp2_with fail
        have hcc := ChgA.refl (w.heap.size) w1
        obtain ⟨w2_0, hW0⟩ : ∃ W, W = w1.setCell ⟨w.heap.size, 0, none⟩ (.int .i64 0) := ⟨_, rfl⟩
        replace hcc : ChgA (w.heap.size) w1 w2_0 := by rw [hW0]; exact hcc.set _ _
        replace hk0 : Blk w2_0 (w.heap.size) 110 [.int .i64 0, .int .i64 0, .int .i64 0, .int .i64 0, .int .i64 0, .int .i64 0, .string ⟨#[]⟩] := by rw [hW0]; exact hk0.set_ 0 _
        rw [← hW0]
        clear hW0
        obtain ⟨w2_1, hW0⟩ : ∃ W, W = w2_0.setCell ⟨w.heap.size, 1, none⟩ (.int .i64 0) := ⟨_, rfl⟩
        replace hcc : ChgA (w.heap.size) w1 w2_1 := by rw [hW0]; exact hcc.set _ _
        replace hk0 : Blk w2_1 (w.heap.size) 110 [.int .i64 0, .int .i64 0, .int .i64 0, .int .i64 0, .int .i64 0, .int .i64 0, .string ⟨#[]⟩] := by rw [hW0]; exact hk0.set_ 1 _
        rw [← hW0]
        clear hW0
        obtain ⟨w2_2, hW0⟩ : ∃ W, W = w2_1.setCell ⟨w.heap.size, 2, none⟩ (.int .i64 0) := ⟨_, rfl⟩
        replace hcc : ChgA (w.heap.size) w1 w2_2 := by rw [hW0]; exact hcc.set _ _
        replace hk0 : Blk w2_2 (w.heap.size) 110 [.int .i64 0, .int .i64 0, .int .i64 0, .int .i64 0, .int .i64 0, .int .i64 0, .string ⟨#[]⟩] := by rw [hW0]; exact hk0.set_ 2 _
        rw [← hW0]
        clear hW0
        obtain ⟨w2_3, hW0⟩ : ∃ W, W = w2_2.setCell ⟨w.heap.size, 3, none⟩ (.int .i64 0) := ⟨_, rfl⟩
        replace hcc : ChgA (w.heap.size) w1 w2_3 := by rw [hW0]; exact hcc.set _ _
        replace hk0 : Blk w2_3 (w.heap.size) 110 [.int .i64 0, .int .i64 0, .int .i64 0, .int .i64 0, .int .i64 0, .int .i64 0, .string ⟨#[]⟩] := by rw [hW0]; exact hk0.set_ 3 _
        rw [← hW0]
        clear hW0
        obtain ⟨w2_4, hW0⟩ : ∃ W, W = w2_3.setCell ⟨w.heap.size, 4, none⟩ (.int .i64 0) := ⟨_, rfl⟩
        replace hcc : ChgA (w.heap.size) w1 w2_4 := by rw [hW0]; exact hcc.set _ _
        replace hk0 : Blk w2_4 (w.heap.size) 110 [.int .i64 0, .int .i64 0, .int .i64 0, .int .i64 0, .int .i64 0, .int .i64 0, .string ⟨#[]⟩] := by rw [hW0]; exact hk0.set_ 4 _
        rw [← hW0]
        clear hW0
        obtain ⟨w2_5, hW0⟩ : ∃ W, W = w2_4.setCell ⟨w.heap.size, 5, none⟩ (.int .i64 0) := ⟨_, rfl⟩
        replace hcc : ChgA (w.heap.size) w1 w2_5 := by rw [hW0]; exact hcc.set _ _
        replace hk0 : Blk w2_5 (w.heap.size) 110 [.int .i64 0, .int .i64 0, .int .i64 0, .int .i64 0, .int .i64 0, .int .i64 0, .string ⟨#[]⟩] := by rw [hW0]; exact hk0.set_ 5 _
        rw [← hW0]
        clear hW0
        obtain ⟨w2, hW0⟩ : ∃ W, W = w2_5.setCell ⟨w.heap.size, 6, none⟩ (.string ⟨#[]⟩) := ⟨_, rfl⟩
        replace hcc : ChgA (w.heap.size) w1 w2 := by rw [hW0]; exact hcc.set _ _
        replace hk0 : Blk w2 (w.heap.size) 110 [.int .i64 0, .int .i64 0, .int .i64 0, .int .i64 0, .int .i64 0, .int .i64 0, .string ⟨#[]⟩] := by rw [hW0]; exact hk0.set_ 6 _
        rw [← hW0]
        clear hW0
        have hc := hcc
        have k2 := hc.below (by omega) k1
        have p2 := hc.size
        replace bl0 := Nat.lt_of_lt_of_le bl0 (Nat.le_of_eq p2.symm)
        clear hc hcc
        clear bx0_0 fz0_0 bx0_1 fz0_1 bx0_2 fz0_2 bx0_3 fz0_3 bx0_4 fz0_4 bx0_5 fz0_5 bx0_6 fz0_6
        have bx0_0 := hk0.at_ 0 _ rfl
        have bx0_1 := hk0.at_ 1 _ rfl
        have bx0_2 := hk0.at_ 2 _ rfl
        have bx0_3 := hk0.at_ 3 _ rfl
        have bx0_4 := hk0.at_ 4 _ rfl
        have bx0_5 := hk0.at_ 5 _ rfl
        have bx0_6 := hk0.at_ 6 _ rfl
        refine bodyPost_ret (v := .tuple #[.agg #[.int .i64 0, .int .i64 0, .int .i64 0, .int .i64 0, .int .i64 0, .int .i64 0, .string ⟨#[]⟩], .bool false]) (by simp [results, Try.results124, go_sem, bx0_0, bx0_1, bx0_2, bx0_3, bx0_4, bx0_5, bx0_6]) rfl ?_
        exact ⟨rfl, k2⟩
    · have hok0 : okP s = false := by simp [okP, hlo]
      rw [hok0]
      simp only [ipI_no hok0, ipT_no hok0]
      generalize g16 s 2 = n at *
      go_enter Try.func124, Try.ntmps124
      go_wp2_with fail
      have k0 : Below w.heap.size w (w.alloc (.cells #[.int .i64 0, .int .i64 0, .int .i64 0, .int .i64 0, .int .i64 0, .int .i64 0, .string ⟨#[]⟩] 110)) := by go_grown
      have bl0 : w.heap.size < (w.alloc (.cells #[.int .i64 0, .int .i64 0, .int .i64 0, .int .i64 0, .int .i64 0, .int .i64 0, .string ⟨#[]⟩] 110)).heap.size := by go_size
      have hk0 : Blk (w.alloc (.cells #[.int .i64 0, .int .i64 0, .int .i64 0, .int .i64 0, .int .i64 0, .int .i64 0, .string ⟨#[]⟩] 110)) (w.heap.size) 110 [.int .i64 0, .int .i64 0, .int .i64 0, .int .i64 0, .int .i64 0, .int .i64 0, .string ⟨#[]⟩] := by simpa using Blk.new w 110 [.int .i64 0, .int .i64 0, .int .i64 0, .int .i64 0, .int .i64 0, .int .i64 0, .string ⟨#[]⟩]
      have p0 := k0.size
      generalize hW0 : (w.alloc (.cells #[.int .i64 0, .int .i64 0, .int .i64 0, .int .i64 0, .int .i64 0, .int .i64 0, .string ⟨#[]⟩] 110)) = w0 at *
      clear hW0
      refine (hn _).mono ?_
      rintro e w1 ⟨rfl, hb⟩
      have k1 : Below w.heap.size w w1 := ext_step k0 (by omega) hb
      have p1 := hb.size
      replace hk0 := hk0.ext hb
      have bl0 := Nat.lt_of_lt_of_le bl0 hb.size
      clear hb
      have bx0_0 := hk0.at_ 0 _ rfl
      have fz0_0 := hk0.frozen 0
      have bx0_1 := hk0.at_ 1 _ rfl
      have fz0_1 := hk0.frozen 1
      have bx0_2 := hk0.at_ 2 _ rfl
      have fz0_2 := hk0.frozen 2
      have bx0_3 := hk0.at_ 3 _ rfl
      have fz0_3 := hk0.frozen 3
      have bx0_4 := hk0.at_ 4 _ rfl
      have fz0_4 := hk0.frozen 4
      have bx0_5 := hk0.at_ 5 _ rfl
      have fz0_5 := hk0.frozen 5
      have bx0_6 := hk0.at_ 6 _ rfl
      have fz0_6 := hk0.frozen 6
      go_wp2_with fail
      have hcc := ChgA.refl (w.heap.size) w1
      obtain ⟨w2_0, hW0⟩ : ∃ W, W = w1.setCell ⟨w.heap.size, 0, none⟩ (.int .i64 0) := ⟨_, rfl⟩
      replace hcc : ChgA (w.heap.size) w1 w2_0 := by rw [hW0]; exact hcc.set _ _
      replace hk0 : Blk w2_0 (w.heap.size) 110 [.int .i64 0, .int .i64 0, .int .i64 0, .int .i64 0, .int .i64 0, .int .i64 0, .string ⟨#[]⟩] := by rw [hW0]; exact hk0.set_ 0 _
      rw [← hW0]
      clear hW0
      obtain ⟨w2_1, hW0⟩ : ∃ W, W = w2_0.setCell ⟨w.heap.size, 1, none⟩ (.int .i64 0) := ⟨_, rfl⟩
      replace hcc : ChgA (w.heap.size) w1 w2_1 := by rw [hW0]; exact hcc.set _ _
      replace hk0 : Blk w2_1 (w.heap.size) 110 [.int .i64 0, .int .i64 0, .int .i64 0, .int .i64 0, .int .i64 0, .int .i64 0, .string ⟨#[]⟩] := by rw [hW0]; exact hk0.set_ 1 _
      rw [← hW0]
      clear hW0
      obtain ⟨w2_2, hW0⟩ : ∃ W, W = w2_1.setCell ⟨w.heap.size, 2, none⟩ (.int .i64 0) := ⟨_, rfl⟩
      replace hcc : ChgA (w.heap.size) w1 w2_2 := by rw [hW0]; exact hcc.set _ _
      replace hk0 : Blk w2_2 (w.heap.size) 110 [.int .i64 0, .int .i64 0, .int .i64 0, .int .i64 0, .int .i64 0, .int .i64 0, .string ⟨#[]⟩] := by rw [hW0]; exact hk0.set_ 2 _
      rw [← hW0]
      clear hW0
      obtain ⟨w2_3, hW0⟩ : ∃ W, W = w2_2.setCell ⟨w.heap.size, 3, none⟩ (.int .i64 0) := ⟨_, rfl⟩
      replace hcc : ChgA (w.heap.size) w1 w2_3 := by rw [hW0]; exact hcc.set _ _
      replace hk0 : Blk w2_3 (w.heap.size) 110 [.int .i64 0, .int .i64 0, .int .i64 0, .int .i64 0, .int .i64 0, .int .i64 0, .string ⟨#[]⟩] := by rw [hW0]; exact hk0.set_ 3 _
      rw [← hW0]
      clear hW0
      obtain ⟨w2_4, hW0⟩ : ∃ W, W = w2_3.setCell ⟨w.heap.size, 4, none⟩ (.int .i64 0) := ⟨_, rfl⟩
      replace hcc : ChgA (w.heap.size) w1 w2_4 := by rw [hW0]; exact hcc.set _ _
      replace hk0 : Blk w2_4 (w.heap.size) 110 [.int .i64 0, .int .i64 0, .int .i64 0, .int .i64 0, .int .i64 0, .int .i64 0, .string ⟨#[]⟩] := by rw [hW0]; exact hk0.set_ 4 _
      rw [← hW0]
      clear hW0
      obtain ⟨w2_5, hW0⟩ : ∃ W, W = w2_4.setCell ⟨w.heap.size, 5, none⟩ (.int .i64 0) := ⟨_, rfl⟩
      replace hcc : ChgA (w.heap.size) w1 w2_5 := by rw [hW0]; exact hcc.set _ _
      replace hk0 : Blk w2_5 (w.heap.size) 110 [.int .i64 0, .int .i64 0, .int .i64 0, .int .i64 0, .int .i64 0, .int .i64 0, .string ⟨#[]⟩] := by rw [hW0]; exact hk0.set_ 5 _
      rw [← hW0]
      clear hW0
      obtain ⟨w2, hW0⟩ : ∃ W, W = w2_5.setCell ⟨w.heap.size, 6, none⟩ (.string ⟨#[]⟩) := ⟨_, rfl⟩
      replace hcc : ChgA (w.heap.size) w1 w2 := by rw [hW0]; exact hcc.set _ _
      replace hk0 : Blk w2 (w.heap.size) 110 [.int .i64 0, .int .i64 0, .int .i64 0, .int .i64 0, .int .i64 0, .int .i64 0, .string ⟨#[]⟩] := by rw [hW0]; exact hk0.set_ 6 _
      rw [← hW0]
      clear hW0
      have hc := hcc
      have k2 := hc.below (by omega) k1
      have p2 := hc.size
      replace bl0 := Nat.lt_of_lt_of_le bl0 (Nat.le_of_eq p2.symm)
      clear hc hcc
      clear bx0_0 fz0_0 bx0_1 fz0_1 bx0_2 fz0_2 bx0_3 fz0_3 bx0_4 fz0_4 bx0_5 fz0_5 bx0_6 fz0_6
      have bx0_0 := hk0.at_ 0 _ rfl
      have bx0_1 := hk0.at_ 1 _ rfl
      have bx0_2 := hk0.at_ 2 _ rfl
      have bx0_3 := hk0.at_ 3 _ rfl
      have bx0_4 := hk0.at_ 4 _ rfl
      have bx0_5 := hk0.at_ 5 _ rfl
      have bx0_6 := hk0.at_ 6 _ rfl
      refine bodyPost_ret (v := .tuple #[.agg #[.int .i64 0, .int .i64 0, .int .i64 0, .int .i64 0, .int .i64 0, .int .i64 0, .string ⟨#[]⟩], .bool false]) (by simp [results, Try.results124, go_sem, bx0_0, bx0_1, bx0_2, bx0_3, bx0_4, bx0_5, bx0_6]) rfl ?_
      exact ⟨rfl, k2⟩
  · have hok0 : okP s = false := by simp [okP, h20]
    rw [hok0]
    simp only [ipI_no hok0, ipT_no hok0]
    generalize g16 s 2 = n at *
    go_enter Try.func124, Try.ntmps124
    go_wp2_with fail
    have k0 : Below w.heap.size w (w.alloc (.cells #[.int .i64 0, .int .i64 0, .int .i64 0, .int .i64 0, .int .i64 0, .int .i64 0, .string ⟨#[]⟩] 110)) := by go_grown
    have bl0 : w.heap.size < (w.alloc (.cells #[.int .i64 0, .int .i64 0, .int .i64 0, .int .i64 0, .int .i64 0, .int .i64 0, .string ⟨#[]⟩] 110)).heap.size := by go_size
    have hk0 : Blk (w.alloc (.cells #[.int .i64 0, .int .i64 0, .int .i64 0, .int .i64 0, .int .i64 0, .int .i64 0, .string ⟨#[]⟩] 110)) (w.heap.size) 110 [.int .i64 0, .int .i64 0, .int .i64 0, .int .i64 0, .int .i64 0, .int .i64 0, .string ⟨#[]⟩] := by simpa using Blk.new w 110 [.int .i64 0, .int .i64 0, .int .i64 0, .int .i64 0, .int .i64 0, .int .i64 0, .string ⟨#[]⟩]
    have p0 := k0.size
    generalize hW0 : (w.alloc (.cells #[.int .i64 0, .int .i64 0, .int .i64 0, .int .i64 0, .int .i64 0, .int .i64 0, .string ⟨#[]⟩] 110)) = w0 at *
    clear hW0
    refine (hn _).mono ?_
    rintro e w1 ⟨rfl, hb⟩
    have k1 : Below w.heap.size w w1 := ext_step k0 (by omega) hb
    have p1 := hb.size
    replace hk0 := hk0.ext hb
    have bl0 := Nat.lt_of_lt_of_le bl0 hb.size
    clear hb
    have bx0_0 := hk0.at_ 0 _ rfl
    have fz0_0 := hk0.frozen 0
    have bx0_1 := hk0.at_ 1 _ rfl
    have fz0_1 := hk0.frozen 1
    have bx0_2 := hk0.at_ 2 _ rfl
    have fz0_2 := hk0.frozen 2
    have bx0_3 := hk0.at_ 3 _ rfl
    have fz0_3 := hk0.frozen 3
    have bx0_4 := hk0.at_ 4 _ rfl
    have fz0_4 := hk0.frozen 4
    have bx0_5 := hk0.at_ 5 _ rfl
    have fz0_5 := hk0.frozen 5
    have bx0_6 := hk0.at_ 6 _ rfl
    have fz0_6 := hk0.frozen 6
    go_wp2_with fail
    have hcc := ChgA.refl (w.heap.size) w1
    obtain ⟨w2_0, hW0⟩ : ∃ W, W = w1.setCell ⟨w.heap.size, 0, none⟩ (.int .i64 0) := ⟨_, rfl⟩
    replace hcc : ChgA (w.heap.size) w1 w2_0 := by rw [hW0]; exact hcc.set _ _
    replace hk0 : Blk w2_0 (w.heap.size) 110 [.int .i64 0, .int .i64 0, .int .i64 0, .int .i64 0, .int .i64 0, .int .i64 0, .string ⟨#[]⟩] := by rw [hW0]; exact hk0.set_ 0 _
    rw [← hW0]
    clear hW0
    obtain ⟨w2_1, hW0⟩ : ∃ W, W = w2_0.setCell ⟨w.heap.size, 1, none⟩ (.int .i64 0) := ⟨_, rfl⟩
    replace hcc : ChgA (w.heap.size) w1 w2_1 := by rw [hW0]; exact hcc.set _ _
    replace hk0 : Blk w2_1 (w.heap.size) 110 [.int .i64 0, .int .i64 0, .int .i64 0, .int .i64 0, .int .i64 0, .int .i64 0, .string ⟨#[]⟩] := by rw [hW0]; exact hk0.set_ 1 _
    rw [← hW0]
    clear hW0
    obtain ⟨w2_2, hW0⟩ : ∃ W, W = w2_1.setCell ⟨w.heap.size, 2, none⟩ (.int .i64 0) := ⟨_, rfl⟩
    replace hcc : ChgA (w.heap.size) w1 w2_2 := by rw [hW0]; exact hcc.set _ _
    replace hk0 : Blk w2_2 (w.heap.size) 110 [.int .i64 0, .int .i64 0, .int .i64 0, .int .i64 0, .int .i64 0, .int .i64 0, .string ⟨#[]⟩] := by rw [hW0]; exact hk0.set_ 2 _
    rw [← hW0]
    clear hW0
    obtain ⟨w2_3, hW0⟩ : ∃ W, W = w2_2.setCell ⟨w.heap.size, 3, none⟩ (.int .i64 0) := ⟨_, rfl⟩
    replace hcc : ChgA (w.heap.size) w1 w2_3 := by rw [hW0]; exact hcc.set _ _
    replace hk0 : Blk w2_3 (w.heap.size) 110 [.int .i64 0, .int .i64 0, .int .i64 0, .int .i64 0, .int .i64 0, .int .i64 0, .string ⟨#[]⟩] := by rw [hW0]; exact hk0.set_ 3 _
    rw [← hW0]
    clear hW0
    obtain ⟨w2_4, hW0⟩ : ∃ W, W = w2_3.setCell ⟨w.heap.size, 4, none⟩ (.int .i64 0) := ⟨_, rfl⟩
    replace hcc : ChgA (w.heap.size) w1 w2_4 := by rw [hW0]; exact hcc.set _ _
    replace hk0 : Blk w2_4 (w.heap.size) 110 [.int .i64 0, .int .i64 0, .int .i64 0, .int .i64 0, .int .i64 0, .int .i64 0, .string ⟨#[]⟩] := by rw [hW0]; exact hk0.set_ 4 _
    rw [← hW0]
    clear hW0
    obtain ⟨w2_5, hW0⟩ : ∃ W, W = w2_4.setCell ⟨w.heap.size, 5, none⟩ (.int .i64 0) := ⟨_, rfl⟩
    replace hcc : ChgA (w.heap.size) w1 w2_5 := by rw [hW0]; exact hcc.set _ _
    replace hk0 : Blk w2_5 (w.heap.size) 110 [.int .i64 0, .int .i64 0, .int .i64 0, .int .i64 0, .int .i64 0, .int .i64 0, .string ⟨#[]⟩] := by rw [hW0]; exact hk0.set_ 5 _
    rw [← hW0]
    clear hW0
    obtain ⟨w2, hW0⟩ : ∃ W, W = w2_5.setCell ⟨w.heap.size, 6, none⟩ (.string ⟨#[]⟩) := ⟨_, rfl⟩
    replace hcc : ChgA (w.heap.size) w1 w2 := by rw [hW0]; exact hcc.set _ _
    replace hk0 : Blk w2 (w.heap.size) 110 [.int .i64 0, .int .i64 0, .int .i64 0, .int .i64 0, .int .i64 0, .int .i64 0, .string ⟨#[]⟩] := by rw [hW0]; exact hk0.set_ 6 _
    rw [← hW0]
    clear hW0
    have hc := hcc
    have k2 := hc.below (by omega) k1
    have p2 := hc.size
    replace bl0 := Nat.lt_of_lt_of_le bl0 (Nat.le_of_eq p2.symm)
    clear hc hcc
    clear bx0_0 fz0_0 bx0_1 fz0_1 bx0_2 fz0_2 bx0_3 fz0_3 bx0_4 fz0_4 bx0_5 fz0_5 bx0_6 fz0_6
    have bx0_0 := hk0.at_ 0 _ rfl
    have bx0_1 := hk0.at_ 1 _ rfl
    have bx0_2 := hk0.at_ 2 _ rfl
    have bx0_3 := hk0.at_ 3 _ rfl
    have bx0_4 := hk0.at_ 4 _ rfl
    have bx0_5 := hk0.at_ 5 _ rfl
    have bx0_6 := hk0.at_ 6 _ rfl
    refine bodyPost_ret (v := .tuple #[.agg #[.int .i64 0, .int .i64 0, .int .i64 0, .int .i64 0, .int .i64 0, .int .i64 0, .string ⟨#[]⟩], .bool false]) (by simp [results, Try.results124, go_sem, bx0_0, bx0_1, bx0_2, bx0_3, bx0_4, bx0_5, bx0_6]) rfl ?_
    exact ⟨rfl, k2⟩
end Go.Proofs.Ytifbfmafogmemaa
