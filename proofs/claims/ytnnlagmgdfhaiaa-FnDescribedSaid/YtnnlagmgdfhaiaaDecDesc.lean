/- Contracts of DecodeDesc: impl and spec. -/
import Derived.Test.YtnnlagmgdfhaiaaGetWord
import Derived.Test.YtnnlagmgdfhaiaaEncDesc
import Derived.Test.YtnnlagmgdfhaiaaSlots4
namespace Go.Proofs.Ytnnlagmgdfhaiaa
set_option linter.unusedSimpArgs false
set_option linter.unusedVariables false
open Go.RowKit Go.ChangeShapes Go.WideShapes
/-- Whether sixteen bytes are a descriptor. -/
def decB (s : ByteArray) : Bool := decide (s.size = 16) && ((encB (byt s 0) (byt s 1) (g16 s 2) (g32 s 4) (g16 s 8) (g16 s 10)).toList == s.toList)
def decV (s : ByteArray) (v : Int) : Int := if decB s then v else 0
theorem decV_no {s : ByteArray} (h : decB s = false) (v : Int) : decV s v = 0 := by rw [decV, h]; rfl
theorem decV_yes {s : ByteArray} (h : decB s = true) (v : Int) : decV s v = v := by rw [decV, h]; rfl
set_option maxRecDepth 100000 in
set_option maxHeartbeats 2000000 in
theorem implDecodeDesc_c (s : ByteArray) (w : World) (hs : s.size ≤ 9223372036854775807) :
    Calls Try.prog 61 #[.string s] w fun e w' => e = .returned (.tuple #[.agg #[.int .i64 (decV s (byt s 0)), .int .i64 (decV s (byt s 1)), .int .i64 (decV s (g16 s 2)), .int .i64 (decV s (g32 s 4)), .int .i64 (decV s (g16 s 8)), .int .i64 (decV s (g16 s 10))], .bool (decB s)]) ∧ Below w.heap.size w w' := by
  by_cases h16 : s.size = 16
  · have hs : s.size ≤ 1048576 := by omega
    have z0 : (0 : Nat) < s.size := by omega
    have z1 : (1 : Nat) < s.size := by omega
    have x0 := idxi (i := 0) (k := 0) rfl z0
    have x1 := idxi (i := 1) (k := 1) rfl z1
    obtain ⟨y0, y1⟩ := byt_bd s 0
    obtain ⟨y2, y3⟩ := byt_bd s 1
    have q2 : I64 (g16 s 2) := by have := g16_bd s 2; exact ⟨by omega, by omega⟩
    have q3 : I64 (g32 s 4) := by have := g32_bd s 4; exact ⟨by omega, by omega⟩
    have q4 : I64 (g16 s 8) := by have := g16_bd s 8; exact ⟨by omega, by omega⟩
    have q5 : I64 (g16 s 10) := by have := g16_bd s 10; exact ⟨by omega, by omega⟩
    have H16 := Lib.hid h16
    have h17 : ((s.size : Int) == 16) = true := by simp [h16]
    cases hc : (encB (byt s 0) (byt s 1) (g16 s 2) (g32 s 4) (g16 s 8) (g16 s 10)).toList == s.toList
    · have hg : decB s = false := by rw [decB, hc, Bool.and_false]
      rw [hg]
      simp only [decV_no hg]
      clear hg h16
      go_enter Try.func61, Try.ntmps61
      go_wp2_with fail
      have k0 : Below w.heap.size w (w.alloc (.cells #[.int .i64 0, .int .i64 0, .int .i64 0, .int .i64 0, .int .i64 0, .int .i64 0] 84)) := by go_grown
      have bx0_0 : (w.alloc (.cells #[.int .i64 0, .int .i64 0, .int .i64 0, .int .i64 0, .int .i64 0, .int .i64 0] 84)).cell? ⟨w.heap.size, 0, none⟩ = some (.int .i64 0) := by simp [go_sem]
      have bx0_1 : (w.alloc (.cells #[.int .i64 0, .int .i64 0, .int .i64 0, .int .i64 0, .int .i64 0, .int .i64 0] 84)).cell? ⟨w.heap.size, 1, none⟩ = some (.int .i64 0) := by simp [go_sem]
      have bx0_2 : (w.alloc (.cells #[.int .i64 0, .int .i64 0, .int .i64 0, .int .i64 0, .int .i64 0, .int .i64 0] 84)).cell? ⟨w.heap.size, 2, none⟩ = some (.int .i64 0) := by simp [go_sem]
      have bx0_3 : (w.alloc (.cells #[.int .i64 0, .int .i64 0, .int .i64 0, .int .i64 0, .int .i64 0, .int .i64 0] 84)).cell? ⟨w.heap.size, 3, none⟩ = some (.int .i64 0) := by simp [go_sem]
      have bx0_4 : (w.alloc (.cells #[.int .i64 0, .int .i64 0, .int .i64 0, .int .i64 0, .int .i64 0, .int .i64 0] 84)).cell? ⟨w.heap.size, 4, none⟩ = some (.int .i64 0) := by simp [go_sem]
      have bx0_5 : (w.alloc (.cells #[.int .i64 0, .int .i64 0, .int .i64 0, .int .i64 0, .int .i64 0, .int .i64 0] 84)).cell? ⟨w.heap.size, 5, none⟩ = some (.int .i64 0) := by simp [go_sem]
      have bl0 : w.heap.size < (w.alloc (.cells #[.int .i64 0, .int .i64 0, .int .i64 0, .int .i64 0, .int .i64 0, .int .i64 0] 84)).heap.size := by go_size
      have hk0 : Blk (w.alloc (.cells #[.int .i64 0, .int .i64 0, .int .i64 0, .int .i64 0, .int .i64 0, .int .i64 0] 84)) (w.heap.size) 84 [.int .i64 0, .int .i64 0, .int .i64 0, .int .i64 0, .int .i64 0, .int .i64 0] := by simpa using Blk.new w 84 [.int .i64 0, .int .i64 0, .int .i64 0, .int .i64 0, .int .i64 0, .int .i64 0]
      have p0 := k0.size
      generalize hW0 : (w.alloc (.cells #[.int .i64 0, .int .i64 0, .int .i64 0, .int .i64 0, .int .i64 0, .int .i64 0] 84)) = w0 at *
      clear hW0
      clear bx0_0 bx0_1 bx0_2 bx0_3 bx0_4 bx0_5
      have bx0_0 : w0.cell? ⟨w.heap.size, 0, none⟩ = some (.int .i64 0) := (hk0.cell 0).trans rfl
      have fz0_0 := hk0.frozen 0
      have bx0_1 : w0.cell? ⟨w.heap.size, 1, none⟩ = some (.int .i64 0) := (hk0.cell 1).trans rfl
      have fz0_1 := hk0.frozen 1
      have bx0_2 : w0.cell? ⟨w.heap.size, 2, none⟩ = some (.int .i64 0) := (hk0.cell 2).trans rfl
      have fz0_2 := hk0.frozen 2
      have bx0_3 : w0.cell? ⟨w.heap.size, 3, none⟩ = some (.int .i64 0) := (hk0.cell 3).trans rfl
      have fz0_3 := hk0.frozen 3
      have bx0_4 : w0.cell? ⟨w.heap.size, 4, none⟩ = some (.int .i64 0) := (hk0.cell 4).trans rfl
      have fz0_4 := hk0.frozen 4
      have bx0_5 : w0.cell? ⟨w.heap.size, 5, none⟩ = some (.int .i64 0) := (hk0.cell 5).trans rfl
      have fz0_5 := hk0.frozen 5
      have hBB : w.heap.size ≤ w0.heap.size := by omega
      refine wp_region_slotsS (w.heap.size) [(9, fun _ v => v = .string s), (10, fun _ v => v = .int .u8 (byt s 0)), (11, fun _ v => v = .int .i64 (byt s 0)), (12, fun _ v => v = .string s), (13, fun _ v => v = .int .u8 (byt s 1)), (14, fun _ v => v = .int .i64 (byt s 1)), (15, fun _ v => v = .string s), (16, fun _ v => v = .int .i64 (g16 s 2)), (17, fun _ v => v = .string s), (18, fun _ v => v = .int .i64 (g32 s 4)), (19, fun _ v => v = .string s), (20, fun _ v => v = .int .i64 (g16 s 8)), (21, fun _ v => v = .string s), (22, fun _ v => v = .int .i64 (g16 s 10)), (23, fun _ v => v = .agg #[.int .i64 (byt s 0), .int .i64 (byt s 1), .int .i64 (g16 s 2), .int .i64 (g32 s 4), .int .i64 (g16 s 8), .int .i64 (g16 s 10)]), (4, BoxP w0.heap.size 84 6)] [⟨16, 4, fun _ => True, StoP w0.heap.size 84 [.int .i64 (byt s 0), .int .i64 (byt s 1), .int .i64 (g16 s 2), .int .i64 (g32 s 4), .int .i64 (g16 s 8), .int .i64 (g16 s 10)]⟩] (fun u => Blk u (w.heap.size) 84 [.int .i64 0, .int .i64 0, .int .i64 0, .int .i64 0, .int .i64 0, .int .i64 0]) (by kernel_rfl) hBB (by kernel_rfl) (by kernel_rfl) (by kernel_rfl) (by kernel_rfl) ?_ ?_ ?_ ?_ ?_ ?_ ?_
      · intro p hp
        simp only [List.mem_cons, List.not_mem_nil, or_false] at hp
        rcases hp with rfl | rfl | rfl | rfl | rfl | rfl | rfl | rfl | rfl | rfl | rfl | rfl | rfl | rfl | rfl | rfl
        all_goals (intro u u' v hb hv; first | exact hv | exact BoxP.keep hv hb | exact RowP.keep hv hb)
      · intro s hs u u' hb
        simp only [List.mem_cons, List.not_mem_nil, or_false] at hs
        rcases hs with rfl
        all_goals (refine ⟨fun h => ?_, fun _ h => ?_⟩ <;> first | exact h | exact StoP.keep h hb | exact StoR.keep h hb | exact Blk.ext h hb | exact StaR.keep h hb)
      · intro s hs
        simp only [List.mem_cons, List.not_mem_nil, or_false] at hs
        rcases hs with rfl
        all_goals first | trivial
      · exact hk0
      · intro u u' hb hj
        have j0 := hj
        exact (j0.ext hb)
      · intro hGk hSk hJk
        refine allStep_cons (stepS_plain hGk hSk hBB hJk (by kernel_rfl) rfl ?_) ?_
        · intro a u hb hz hj hl hp K Q hK
          have e0 : a.tmps[0]?.getD undef = .string s := gd (hl 0 (by kernel_rfl))
          go_simp
          exact hK _ _ (Below.refl _ _) (by intro d hd; cases hd; exact rfl)
        refine allStep_cons (stepS_plain hGk hSk hBB hJk (by kernel_rfl) rfl ?_) ?_
        · intro a u hb hz hj hl hp K Q hK
          have e9 : a.tmps[9]?.getD undef = .string s := gd (hl 9 (by kernel_rfl))
          go_simp
          exact hK _ _ (Below.refl _ _) (by intro d hd; cases hd; exact rfl)
        refine allStep_cons (stepS_plain hGk hSk hBB hJk (by kernel_rfl) rfl ?_) ?_
        · intro a u hb hz hj hl hp K Q hK
          have e10 : a.tmps[10]?.getD undef = .int .u8 (byt s 0) := gd (hl 10 (by kernel_rfl))
          have ew : IntKind.i64.wrap (byt s 0) = byt s 0 := IntWalk.i64_in _ ⟨by omega, by omega⟩
          go_simp
          exact hK _ _ (Below.refl _ _) (by intro d hd; cases hd; exact rfl)
        refine allStep_cons (stepS_plain hGk hSk hBB hJk (by kernel_rfl) rfl ?_) ?_
        · intro a u hb hz hj hl hp K Q hK
          have e0 : a.tmps[0]?.getD undef = .string s := gd (hl 0 (by kernel_rfl))
          go_simp
          exact hK _ _ (Below.refl _ _) (by intro d hd; cases hd; exact rfl)
        refine allStep_cons (stepS_plain hGk hSk hBB hJk (by kernel_rfl) rfl ?_) ?_
        · intro a u hb hz hj hl hp K Q hK
          have e12 : a.tmps[12]?.getD undef = .string s := gd (hl 12 (by kernel_rfl))
          go_simp
          exact hK _ _ (Below.refl _ _) (by intro d hd; cases hd; exact rfl)
        refine allStep_cons (stepS_plain hGk hSk hBB hJk (by kernel_rfl) rfl ?_) ?_
        · intro a u hb hz hj hl hp K Q hK
          have e13 : a.tmps[13]?.getD undef = .int .u8 (byt s 1) := gd (hl 13 (by kernel_rfl))
          have ew : IntKind.i64.wrap (byt s 1) = byt s 1 := IntWalk.i64_in _ ⟨by omega, by omega⟩
          go_simp
          exact hK _ _ (Below.refl _ _) (by intro d hd; cases hd; exact rfl)
        refine allStep_cons (stepS_plain hGk hSk hBB hJk (by kernel_rfl) rfl ?_) ?_
        · intro a u hb hz hj hl hp K Q hK
          have e0 : a.tmps[0]?.getD undef = .string s := gd (hl 0 (by kernel_rfl))
          go_simp
          exact hK _ _ (Below.refl _ _) (by intro d hd; cases hd; exact rfl)
        refine allStep_cons (stepS_plain hGk hSk hBB hJk (by kernel_rfl) rfl ?_) ?_
        · intro a u hb hz hj hl hp K Q hK
          have e15 : a.tmps[15]?.getD undef = .string s := gd (hl 15 (by kernel_rfl))
          go_simp
          refine (implGet16_c _ _ _ (by omega) ⟨by omega, by omega⟩).mono ?_
          rintro e u1 ⟨rfl, hb1⟩
          exact hK _ _ hb1 (by intro d hd; cases hd; exact rfl)
        refine allStep_cons (stepS_plain hGk hSk hBB hJk (by kernel_rfl) rfl ?_) ?_
        · intro a u hb hz hj hl hp K Q hK
          have e0 : a.tmps[0]?.getD undef = .string s := gd (hl 0 (by kernel_rfl))
          go_simp
          exact hK _ _ (Below.refl _ _) (by intro d hd; cases hd; exact rfl)
        refine allStep_cons (stepS_plain hGk hSk hBB hJk (by kernel_rfl) rfl ?_) ?_
        · intro a u hb hz hj hl hp K Q hK
          have e17 : a.tmps[17]?.getD undef = .string s := gd (hl 17 (by kernel_rfl))
          go_simp
          refine (implGet32_c _ _ _ (by omega) ⟨by omega, by omega⟩).mono ?_
          rintro e u1 ⟨rfl, hb1⟩
          exact hK _ _ hb1 (by intro d hd; cases hd; exact rfl)
        refine allStep_cons (stepS_plain hGk hSk hBB hJk (by kernel_rfl) rfl ?_) ?_
        · intro a u hb hz hj hl hp K Q hK
          have e0 : a.tmps[0]?.getD undef = .string s := gd (hl 0 (by kernel_rfl))
          go_simp
          exact hK _ _ (Below.refl _ _) (by intro d hd; cases hd; exact rfl)
        refine allStep_cons (stepS_plain hGk hSk hBB hJk (by kernel_rfl) rfl ?_) ?_
        · intro a u hb hz hj hl hp K Q hK
          have e19 : a.tmps[19]?.getD undef = .string s := gd (hl 19 (by kernel_rfl))
          go_simp
          refine (implGet16_c _ _ _ (by omega) ⟨by omega, by omega⟩).mono ?_
          rintro e u1 ⟨rfl, hb1⟩
          exact hK _ _ hb1 (by intro d hd; cases hd; exact rfl)
        refine allStep_cons (stepS_plain hGk hSk hBB hJk (by kernel_rfl) rfl ?_) ?_
        · intro a u hb hz hj hl hp K Q hK
          have e0 : a.tmps[0]?.getD undef = .string s := gd (hl 0 (by kernel_rfl))
          go_simp
          exact hK _ _ (Below.refl _ _) (by intro d hd; cases hd; exact rfl)
        refine allStep_cons (stepS_plain hGk hSk hBB hJk (by kernel_rfl) rfl ?_) ?_
        · intro a u hb hz hj hl hp K Q hK
          have e21 : a.tmps[21]?.getD undef = .string s := gd (hl 21 (by kernel_rfl))
          go_simp
          refine (implGet16_c _ _ _ (by omega) ⟨by omega, by omega⟩).mono ?_
          rintro e u1 ⟨rfl, hb1⟩
          exact hK _ _ hb1 (by intro d hd; cases hd; exact rfl)
        refine allStep_cons (stepS_plain hGk hSk hBB hJk (by kernel_rfl) rfl ?_) ?_
        · intro a u hb hz hj hl hp K Q hK
          have e11 : a.tmps[11]?.getD undef = .int .i64 (byt s 0) := gd (hl 11 (by kernel_rfl))
          have e14 : a.tmps[14]?.getD undef = .int .i64 (byt s 1) := gd (hl 14 (by kernel_rfl))
          have e16 : a.tmps[16]?.getD undef = .int .i64 (g16 s 2) := gd (hl 16 (by kernel_rfl))
          have e18 : a.tmps[18]?.getD undef = .int .i64 (g32 s 4) := gd (hl 18 (by kernel_rfl))
          have e20 : a.tmps[20]?.getD undef = .int .i64 (g16 s 8) := gd (hl 20 (by kernel_rfl))
          have e22 : a.tmps[22]?.getD undef = .int .i64 (g16 s 10) := gd (hl 22 (by kernel_rfl))
          go_simp
          exact hK _ _ (Below.refl _ _) (by intro d hd; cases hd; exact rfl)
        refine allStep_cons (stepS_plain hGk hSk hBB hJk (by kernel_rfl) rfl ?_) ?_
        · intro a u hb hz hj hl hp K Q hK
          go_simp
          exact hK _ _ (by go_grown) (by intro d hd; cases hd; exact BoxP.new _ _ [.int .i64 0, .int .i64 0, .int .i64 0, .int .i64 0, .int .i64 0, .int .i64 0] (by omega) rfl)
        refine allStep_cons (stepS_store (Chg w0.heap.size 84) (fun _ _ hc hb => hc.below' (by omega) hb) (fun _ _ hc => hc.size) (hold_rel ?_) ?_ ?_ rfl rfl ?_) ?_
        · intro p hp
          simp only [List.mem_cons, List.not_mem_nil, or_false] at hp
          rcases hp with rfl | rfl | rfl | rfl | rfl | rfl | rfl | rfl | rfl | rfl | rfl | rfl | rfl | rfl | rfl | rfl
          all_goals (intro u u' v hb hv; first | exact hv | exact BoxP.chg hv hb | exact RowP.chg hv hb (by decide))
        · intro s hs hne u u' hb
          simp only [List.mem_cons, List.not_mem_nil, or_false] at hs
          rcases hs with rfl
          all_goals first | exact absurd (by rfl) hne | (refine ⟨fun h => ?_, fun _ h => ?_⟩ <;> first | exact h | exact StoP.chg h hb (by decide) | exact StoR.chg h hb (by decide) (by decide) | exact Blk.chgL h hb (by omega) | exact StaR.chgL h hb (by omega) (by decide))
        · intro u u' hb hj
          have j0 := hj
          exact (j0.chgL hb (by omega))
        · intro a u hb hz hj hl hp K Q hK
          obtain ⟨b, exb, hB, zs, hzl, hbk⟩ : BoxP w0.heap.size 84 6 u (a.tmps.getD 4 undef) := hl 4 (by kernel_rfl)
          have e4 := gd exb
          have e23 : a.tmps[23]?.getD undef = .agg #[.int .i64 (byt s 0), .int .i64 (byt s 1), .int .i64 (g16 s 2), .int .i64 (g32 s 4), .int .i64 (g16 s 8), .int .i64 (g16 s 10)] := gd (hl 23 (by kernel_rfl))
          obtain ⟨z0, z1, z2, z3, z4, z5, rfl⟩ : ∃ z0 z1 z2 z3 z4 z5, zs = [z0, z1, z2, z3, z4, z5] := (by match zs, hzl with | [z0, z1, z2, z3, z4, z5], _ => exact ⟨_, _, _, _, _, _, rfl⟩)
          have hlt := hbk.lt
          have g0 : u.cell? ⟨b, 0, none⟩ = some z0 := (hbk.cell 0).trans rfl
          have f0 := hbk.frozen 0
          have g1 : u.cell? ⟨b, 1, none⟩ = some z1 := (hbk.cell 1).trans rfl
          have f1 := hbk.frozen 1
          have g2 : u.cell? ⟨b, 2, none⟩ = some z2 := (hbk.cell 2).trans rfl
          have f2 := hbk.frozen 2
          have g3 : u.cell? ⟨b, 3, none⟩ = some z3 := (hbk.cell 3).trans rfl
          have f3 := hbk.frozen 3
          have g4 : u.cell? ⟨b, 4, none⟩ = some z4 := (hbk.cell 4).trans rfl
          have f4 := hbk.frozen 4
          have g5 : u.cell? ⟨b, 5, none⟩ = some z5 := (hbk.cell 5).trans rfl
          have f5 := hbk.frozen 5
          go_simp
          refine hK undef _ (((((((Chg.refl _ _ _).set hbk hB 0 _).set (hbk.set_ 0 _) hB 1 _).set ((hbk.set_ 0 _).set_ 1 _) hB 2 _).set (((hbk.set_ 0 _).set_ 1 _).set_ 2 _) hB 3 _).set ((((hbk.set_ 0 _).set_ 1 _).set_ 2 _).set_ 3 _) hB 4 _).set (((((hbk.set_ 0 _).set_ 1 _).set_ 2 _).set_ 3 _).set_ 4 _) hB 5 _) (fun s hs he => ?_)
          simp only [List.mem_cons, List.not_mem_nil, or_false] at hs
          rcases hs with rfl
          · exact ⟨b, exb, hB, ((((((hbk.set_ 0 _).set_ 1 _).set_ 2 _).set_ 3 _).set_ 4 _).set_ 5 _)⟩
        exact allStep_nil
      intro xT w1 hb hz hj hL hSt
      clear bx0_0 fz0_0 bx0_1 fz0_1 bx0_2 fz0_2 bx0_3 fz0_3 bx0_4 fz0_4 bx0_5 fz0_5 hk0
      have hk0 : (fun u => Blk u (w.heap.size) 84 [.int .i64 0, .int .i64 0, .int .i64 0, .int .i64 0, .int .i64 0, .int .i64 0]) w1 := hj
      dsimp only at hk0
      obtain ⟨bk_1, fx4, lo1, hk1⟩ : StoP w0.heap.size 84 [.int .i64 (byt s 0), .int .i64 (byt s 1), .int .i64 (g16 s 2), .int .i64 (g32 s 4), .int .i64 (g16 s 8), .int .i64 (g16 s 10)] w1 (xT 4) := hSt _ (List.mem_of_getElem? (i := 0) rfl)
      simp only [List.map, putAll, fx4]
      have bl1 := hk1.lt
      have k1 : Below w.heap.size w w1 := k0.trans hb
      have p1 : w0.heap.size ≤ w1.heap.size := hb.size
      have bl0 := Nat.lt_of_lt_of_le bl0 hb.size
      have bx0_0 : w1.cell? ⟨w.heap.size, 0, none⟩ = some (.int .i64 0) := (hk0.cell 0).trans rfl
      have fz0_0 := hk0.frozen 0
      have bx0_1 : w1.cell? ⟨w.heap.size, 1, none⟩ = some (.int .i64 0) := (hk0.cell 1).trans rfl
      have fz0_1 := hk0.frozen 1
      have bx0_2 : w1.cell? ⟨w.heap.size, 2, none⟩ = some (.int .i64 0) := (hk0.cell 2).trans rfl
      have fz0_2 := hk0.frozen 2
      have bx0_3 : w1.cell? ⟨w.heap.size, 3, none⟩ = some (.int .i64 0) := (hk0.cell 3).trans rfl
      have fz0_3 := hk0.frozen 3
      have bx0_4 : w1.cell? ⟨w.heap.size, 4, none⟩ = some (.int .i64 0) := (hk0.cell 4).trans rfl
      have fz0_4 := hk0.frozen 4
      have bx0_5 : w1.cell? ⟨w.heap.size, 5, none⟩ = some (.int .i64 0) := (hk0.cell 5).trans rfl
      have fz0_5 := hk0.frozen 5
      have bx1_0 : w1.cell? ⟨bk_1, 0, none⟩ = some (.int .i64 (byt s 0)) := (hk1.cell 0).trans rfl
      have fz1_0 := hk1.frozen 0
      have bx1_1 : w1.cell? ⟨bk_1, 1, none⟩ = some (.int .i64 (byt s 1)) := (hk1.cell 1).trans rfl
      have fz1_1 := hk1.frozen 1
      have bx1_2 : w1.cell? ⟨bk_1, 2, none⟩ = some (.int .i64 (g16 s 2)) := (hk1.cell 2).trans rfl
      have fz1_2 := hk1.frozen 2
      have bx1_3 : w1.cell? ⟨bk_1, 3, none⟩ = some (.int .i64 (g32 s 4)) := (hk1.cell 3).trans rfl
      have fz1_3 := hk1.frozen 3
      have bx1_4 : w1.cell? ⟨bk_1, 4, none⟩ = some (.int .i64 (g16 s 8)) := (hk1.cell 4).trans rfl
      have fz1_4 := hk1.frozen 4
      have bx1_5 : w1.cell? ⟨bk_1, 5, none⟩ = some (.int .i64 (g16 s 10)) := (hk1.cell 5).trans rfl
      have fz1_5 := hk1.frozen 5
      clear hL hSt hb hz fx4
      go_wp2_with fail
      refine (implEncodeDesc_c _ _ _ _ _ _ _ q2 q3 q4 q5).mono ?_
      rintro e w2 ⟨rfl, hb⟩
      have k2 : Below w.heap.size w w2 := ext_step k1 (by omega) hb
      have p2 := hb.size
      replace hk0 := hk0.ext hb
      replace hk1 := hk1.ext hb
      clear bx0_0 fz0_0 bx0_1 fz0_1 bx0_2 fz0_2 bx0_3 fz0_3 bx0_4 fz0_4 bx0_5 fz0_5 bx1_0 fz1_0 bx1_1 fz1_1 bx1_2 fz1_2 bx1_3 fz1_3 bx1_4 fz1_4 bx1_5 fz1_5
      have bx0_0 : w2.cell? ⟨w.heap.size, 0, none⟩ = some (.int .i64 0) := (hk0.cell 0).trans rfl
      have fz0_0 := hk0.frozen 0
      have bx0_1 : w2.cell? ⟨w.heap.size, 1, none⟩ = some (.int .i64 0) := (hk0.cell 1).trans rfl
      have fz0_1 := hk0.frozen 1
      have bx0_2 : w2.cell? ⟨w.heap.size, 2, none⟩ = some (.int .i64 0) := (hk0.cell 2).trans rfl
      have fz0_2 := hk0.frozen 2
      have bx0_3 : w2.cell? ⟨w.heap.size, 3, none⟩ = some (.int .i64 0) := (hk0.cell 3).trans rfl
      have fz0_3 := hk0.frozen 3
      have bx0_4 : w2.cell? ⟨w.heap.size, 4, none⟩ = some (.int .i64 0) := (hk0.cell 4).trans rfl
      have fz0_4 := hk0.frozen 4
      have bx0_5 : w2.cell? ⟨w.heap.size, 5, none⟩ = some (.int .i64 0) := (hk0.cell 5).trans rfl
      have fz0_5 := hk0.frozen 5
      have bx1_0 : w2.cell? ⟨bk_1, 0, none⟩ = some (.int .i64 (byt s 0)) := (hk1.cell 0).trans rfl
      have fz1_0 := hk1.frozen 0
      have bx1_1 : w2.cell? ⟨bk_1, 1, none⟩ = some (.int .i64 (byt s 1)) := (hk1.cell 1).trans rfl
      have fz1_1 := hk1.frozen 1
      have bx1_2 : w2.cell? ⟨bk_1, 2, none⟩ = some (.int .i64 (g16 s 2)) := (hk1.cell 2).trans rfl
      have fz1_2 := hk1.frozen 2
      have bx1_3 : w2.cell? ⟨bk_1, 3, none⟩ = some (.int .i64 (g32 s 4)) := (hk1.cell 3).trans rfl
      have fz1_3 := hk1.frozen 3
      have bx1_4 : w2.cell? ⟨bk_1, 4, none⟩ = some (.int .i64 (g16 s 8)) := (hk1.cell 4).trans rfl
      have fz1_4 := hk1.frozen 4
      have bx1_5 : w2.cell? ⟨bk_1, 5, none⟩ = some (.int .i64 (g16 s 10)) := (hk1.cell 5).trans rfl
      have fz1_5 := hk1.frozen 5
      have bl0 := Nat.lt_of_lt_of_le bl0 hb.size
      have bl1 := Nat.lt_of_lt_of_le bl1 hb.size
      clear hb
      go_wp2_with fail
      have hc : ChgA (w.heap.size) w2 (w2.setCell ⟨w.heap.size, 0, none⟩ (.int .i64 0)) := (ChgA.refl _ _).set _ _
      have hko := hk0
      replace hk1 := hk1.chgA hc (by omega)
      replace hk0 : Blk (w2.setCell ⟨w.heap.size, 0, none⟩ (.int .i64 0)) (w.heap.size) 84 [.int .i64 0, .int .i64 0, .int .i64 0, .int .i64 0, .int .i64 0, .int .i64 0] := hk0.set_ 0 _
      have k3 : Below w.heap.size w (w2.setCell ⟨w.heap.size, 0, none⟩ (.int .i64 0)) := hc.below (by omega) k2
      have p3 : (w2.setCell ⟨w.heap.size, 0, none⟩ (.int .i64 0)).heap.size = w2.heap.size := hc.size
      have bl0 := Nat.lt_of_lt_of_le bl0 (Nat.le_of_eq p3.symm)
      have bl1 := Nat.lt_of_lt_of_le bl1 (Nat.le_of_eq p3.symm)
      generalize hW0 : (w2.setCell ⟨w.heap.size, 0, none⟩ (.int .i64 0)) = w3 at *
      clear hW0 hc hko
      clear bx0_0 fz0_0 bx0_1 fz0_1 bx0_2 fz0_2 bx0_3 fz0_3 bx0_4 fz0_4 bx0_5 fz0_5 bx1_0 fz1_0 bx1_1 fz1_1 bx1_2 fz1_2 bx1_3 fz1_3 bx1_4 fz1_4 bx1_5 fz1_5
      have bx0_0 : w3.cell? ⟨w.heap.size, 0, none⟩ = some (.int .i64 0) := (hk0.cell 0).trans rfl
      have fz0_0 := hk0.frozen 0
      have bx0_1 : w3.cell? ⟨w.heap.size, 1, none⟩ = some (.int .i64 0) := (hk0.cell 1).trans rfl
      have fz0_1 := hk0.frozen 1
      have bx0_2 : w3.cell? ⟨w.heap.size, 2, none⟩ = some (.int .i64 0) := (hk0.cell 2).trans rfl
      have fz0_2 := hk0.frozen 2
      have bx0_3 : w3.cell? ⟨w.heap.size, 3, none⟩ = some (.int .i64 0) := (hk0.cell 3).trans rfl
      have fz0_3 := hk0.frozen 3
      have bx0_4 : w3.cell? ⟨w.heap.size, 4, none⟩ = some (.int .i64 0) := (hk0.cell 4).trans rfl
      have fz0_4 := hk0.frozen 4
      have bx0_5 : w3.cell? ⟨w.heap.size, 5, none⟩ = some (.int .i64 0) := (hk0.cell 5).trans rfl
      have fz0_5 := hk0.frozen 5
      have bx1_0 : w3.cell? ⟨bk_1, 0, none⟩ = some (.int .i64 (byt s 0)) := (hk1.cell 0).trans rfl
      have fz1_0 := hk1.frozen 0
      have bx1_1 : w3.cell? ⟨bk_1, 1, none⟩ = some (.int .i64 (byt s 1)) := (hk1.cell 1).trans rfl
      have fz1_1 := hk1.frozen 1
      have bx1_2 : w3.cell? ⟨bk_1, 2, none⟩ = some (.int .i64 (g16 s 2)) := (hk1.cell 2).trans rfl
      have fz1_2 := hk1.frozen 2
      have bx1_3 : w3.cell? ⟨bk_1, 3, none⟩ = some (.int .i64 (g32 s 4)) := (hk1.cell 3).trans rfl
      have fz1_3 := hk1.frozen 3
      have bx1_4 : w3.cell? ⟨bk_1, 4, none⟩ = some (.int .i64 (g16 s 8)) := (hk1.cell 4).trans rfl
      have fz1_4 := hk1.frozen 4
      have bx1_5 : w3.cell? ⟨bk_1, 5, none⟩ = some (.int .i64 (g16 s 10)) := (hk1.cell 5).trans rfl
      have fz1_5 := hk1.frozen 5
      have hc : ChgA (w.heap.size) w3 (w3.setCell ⟨w.heap.size, 1, none⟩ (.int .i64 0)) := (ChgA.refl _ _).set _ _
      have hko := hk0
      replace hk1 := hk1.chgA hc (by omega)
      replace hk0 : Blk (w3.setCell ⟨w.heap.size, 1, none⟩ (.int .i64 0)) (w.heap.size) 84 [.int .i64 0, .int .i64 0, .int .i64 0, .int .i64 0, .int .i64 0, .int .i64 0] := hk0.set_ 1 _
      have k4 : Below w.heap.size w (w3.setCell ⟨w.heap.size, 1, none⟩ (.int .i64 0)) := hc.below (by omega) k3
      have p4 : (w3.setCell ⟨w.heap.size, 1, none⟩ (.int .i64 0)).heap.size = w3.heap.size := hc.size
      have bl0 := Nat.lt_of_lt_of_le bl0 (Nat.le_of_eq p4.symm)
      have bl1 := Nat.lt_of_lt_of_le bl1 (Nat.le_of_eq p4.symm)
      generalize hW0 : (w3.setCell ⟨w.heap.size, 1, none⟩ (.int .i64 0)) = w4 at *
      clear hW0 hc hko
      clear bx0_0 fz0_0 bx0_1 fz0_1 bx0_2 fz0_2 bx0_3 fz0_3 bx0_4 fz0_4 bx0_5 fz0_5 bx1_0 fz1_0 bx1_1 fz1_1 bx1_2 fz1_2 bx1_3 fz1_3 bx1_4 fz1_4 bx1_5 fz1_5
      have bx0_0 : w4.cell? ⟨w.heap.size, 0, none⟩ = some (.int .i64 0) := (hk0.cell 0).trans rfl
      have fz0_0 := hk0.frozen 0
      have bx0_1 : w4.cell? ⟨w.heap.size, 1, none⟩ = some (.int .i64 0) := (hk0.cell 1).trans rfl
      have fz0_1 := hk0.frozen 1
      have bx0_2 : w4.cell? ⟨w.heap.size, 2, none⟩ = some (.int .i64 0) := (hk0.cell 2).trans rfl
      have fz0_2 := hk0.frozen 2
      have bx0_3 : w4.cell? ⟨w.heap.size, 3, none⟩ = some (.int .i64 0) := (hk0.cell 3).trans rfl
      have fz0_3 := hk0.frozen 3
      have bx0_4 : w4.cell? ⟨w.heap.size, 4, none⟩ = some (.int .i64 0) := (hk0.cell 4).trans rfl
      have fz0_4 := hk0.frozen 4
      have bx0_5 : w4.cell? ⟨w.heap.size, 5, none⟩ = some (.int .i64 0) := (hk0.cell 5).trans rfl
      have fz0_5 := hk0.frozen 5
      have bx1_0 : w4.cell? ⟨bk_1, 0, none⟩ = some (.int .i64 (byt s 0)) := (hk1.cell 0).trans rfl
      have fz1_0 := hk1.frozen 0
      have bx1_1 : w4.cell? ⟨bk_1, 1, none⟩ = some (.int .i64 (byt s 1)) := (hk1.cell 1).trans rfl
      have fz1_1 := hk1.frozen 1
      have bx1_2 : w4.cell? ⟨bk_1, 2, none⟩ = some (.int .i64 (g16 s 2)) := (hk1.cell 2).trans rfl
      have fz1_2 := hk1.frozen 2
      have bx1_3 : w4.cell? ⟨bk_1, 3, none⟩ = some (.int .i64 (g32 s 4)) := (hk1.cell 3).trans rfl
      have fz1_3 := hk1.frozen 3
      have bx1_4 : w4.cell? ⟨bk_1, 4, none⟩ = some (.int .i64 (g16 s 8)) := (hk1.cell 4).trans rfl
      have fz1_4 := hk1.frozen 4
      have bx1_5 : w4.cell? ⟨bk_1, 5, none⟩ = some (.int .i64 (g16 s 10)) := (hk1.cell 5).trans rfl
      have fz1_5 := hk1.frozen 5
      have hc : ChgA (w.heap.size) w4 (w4.setCell ⟨w.heap.size, 2, none⟩ (.int .i64 0)) := (ChgA.refl _ _).set _ _
      have hko := hk0
      replace hk1 := hk1.chgA hc (by omega)
      replace hk0 : Blk (w4.setCell ⟨w.heap.size, 2, none⟩ (.int .i64 0)) (w.heap.size) 84 [.int .i64 0, .int .i64 0, .int .i64 0, .int .i64 0, .int .i64 0, .int .i64 0] := hk0.set_ 2 _
      have k5 : Below w.heap.size w (w4.setCell ⟨w.heap.size, 2, none⟩ (.int .i64 0)) := hc.below (by omega) k4
      have p5 : (w4.setCell ⟨w.heap.size, 2, none⟩ (.int .i64 0)).heap.size = w4.heap.size := hc.size
      have bl0 := Nat.lt_of_lt_of_le bl0 (Nat.le_of_eq p5.symm)
      have bl1 := Nat.lt_of_lt_of_le bl1 (Nat.le_of_eq p5.symm)
      generalize hW0 : (w4.setCell ⟨w.heap.size, 2, none⟩ (.int .i64 0)) = w5 at *
      clear hW0 hc hko
      clear bx0_0 fz0_0 bx0_1 fz0_1 bx0_2 fz0_2 bx0_3 fz0_3 bx0_4 fz0_4 bx0_5 fz0_5 bx1_0 fz1_0 bx1_1 fz1_1 bx1_2 fz1_2 bx1_3 fz1_3 bx1_4 fz1_4 bx1_5 fz1_5
      have bx0_0 : w5.cell? ⟨w.heap.size, 0, none⟩ = some (.int .i64 0) := (hk0.cell 0).trans rfl
      have fz0_0 := hk0.frozen 0
      have bx0_1 : w5.cell? ⟨w.heap.size, 1, none⟩ = some (.int .i64 0) := (hk0.cell 1).trans rfl
      have fz0_1 := hk0.frozen 1
      have bx0_2 : w5.cell? ⟨w.heap.size, 2, none⟩ = some (.int .i64 0) := (hk0.cell 2).trans rfl
      have fz0_2 := hk0.frozen 2
      have bx0_3 : w5.cell? ⟨w.heap.size, 3, none⟩ = some (.int .i64 0) := (hk0.cell 3).trans rfl
      have fz0_3 := hk0.frozen 3
      have bx0_4 : w5.cell? ⟨w.heap.size, 4, none⟩ = some (.int .i64 0) := (hk0.cell 4).trans rfl
      have fz0_4 := hk0.frozen 4
      have bx0_5 : w5.cell? ⟨w.heap.size, 5, none⟩ = some (.int .i64 0) := (hk0.cell 5).trans rfl
      have fz0_5 := hk0.frozen 5
      have bx1_0 : w5.cell? ⟨bk_1, 0, none⟩ = some (.int .i64 (byt s 0)) := (hk1.cell 0).trans rfl
      have fz1_0 := hk1.frozen 0
      have bx1_1 : w5.cell? ⟨bk_1, 1, none⟩ = some (.int .i64 (byt s 1)) := (hk1.cell 1).trans rfl
      have fz1_1 := hk1.frozen 1
      have bx1_2 : w5.cell? ⟨bk_1, 2, none⟩ = some (.int .i64 (g16 s 2)) := (hk1.cell 2).trans rfl
      have fz1_2 := hk1.frozen 2
      have bx1_3 : w5.cell? ⟨bk_1, 3, none⟩ = some (.int .i64 (g32 s 4)) := (hk1.cell 3).trans rfl
      have fz1_3 := hk1.frozen 3
      have bx1_4 : w5.cell? ⟨bk_1, 4, none⟩ = some (.int .i64 (g16 s 8)) := (hk1.cell 4).trans rfl
      have fz1_4 := hk1.frozen 4
      have bx1_5 : w5.cell? ⟨bk_1, 5, none⟩ = some (.int .i64 (g16 s 10)) := (hk1.cell 5).trans rfl
      have fz1_5 := hk1.frozen 5
      have hc : ChgA (w.heap.size) w5 (w5.setCell ⟨w.heap.size, 3, none⟩ (.int .i64 0)) := (ChgA.refl _ _).set _ _
      have hko := hk0
      replace hk1 := hk1.chgA hc (by omega)
      replace hk0 : Blk (w5.setCell ⟨w.heap.size, 3, none⟩ (.int .i64 0)) (w.heap.size) 84 [.int .i64 0, .int .i64 0, .int .i64 0, .int .i64 0, .int .i64 0, .int .i64 0] := hk0.set_ 3 _
      have k6 : Below w.heap.size w (w5.setCell ⟨w.heap.size, 3, none⟩ (.int .i64 0)) := hc.below (by omega) k5
      have p6 : (w5.setCell ⟨w.heap.size, 3, none⟩ (.int .i64 0)).heap.size = w5.heap.size := hc.size
      have bl0 := Nat.lt_of_lt_of_le bl0 (Nat.le_of_eq p6.symm)
      have bl1 := Nat.lt_of_lt_of_le bl1 (Nat.le_of_eq p6.symm)
      generalize hW0 : (w5.setCell ⟨w.heap.size, 3, none⟩ (.int .i64 0)) = w6 at *
      clear hW0 hc hko
      clear bx0_0 fz0_0 bx0_1 fz0_1 bx0_2 fz0_2 bx0_3 fz0_3 bx0_4 fz0_4 bx0_5 fz0_5 bx1_0 fz1_0 bx1_1 fz1_1 bx1_2 fz1_2 bx1_3 fz1_3 bx1_4 fz1_4 bx1_5 fz1_5
      have bx0_0 : w6.cell? ⟨w.heap.size, 0, none⟩ = some (.int .i64 0) := (hk0.cell 0).trans rfl
      have fz0_0 := hk0.frozen 0
      have bx0_1 : w6.cell? ⟨w.heap.size, 1, none⟩ = some (.int .i64 0) := (hk0.cell 1).trans rfl
      have fz0_1 := hk0.frozen 1
      have bx0_2 : w6.cell? ⟨w.heap.size, 2, none⟩ = some (.int .i64 0) := (hk0.cell 2).trans rfl
      have fz0_2 := hk0.frozen 2
      have bx0_3 : w6.cell? ⟨w.heap.size, 3, none⟩ = some (.int .i64 0) := (hk0.cell 3).trans rfl
      have fz0_3 := hk0.frozen 3
      have bx0_4 : w6.cell? ⟨w.heap.size, 4, none⟩ = some (.int .i64 0) := (hk0.cell 4).trans rfl
      have fz0_4 := hk0.frozen 4
      have bx0_5 : w6.cell? ⟨w.heap.size, 5, none⟩ = some (.int .i64 0) := (hk0.cell 5).trans rfl
      have fz0_5 := hk0.frozen 5
      have bx1_0 : w6.cell? ⟨bk_1, 0, none⟩ = some (.int .i64 (byt s 0)) := (hk1.cell 0).trans rfl
      have fz1_0 := hk1.frozen 0
      have bx1_1 : w6.cell? ⟨bk_1, 1, none⟩ = some (.int .i64 (byt s 1)) := (hk1.cell 1).trans rfl
      have fz1_1 := hk1.frozen 1
      have bx1_2 : w6.cell? ⟨bk_1, 2, none⟩ = some (.int .i64 (g16 s 2)) := (hk1.cell 2).trans rfl
      have fz1_2 := hk1.frozen 2
      have bx1_3 : w6.cell? ⟨bk_1, 3, none⟩ = some (.int .i64 (g32 s 4)) := (hk1.cell 3).trans rfl
      have fz1_3 := hk1.frozen 3
      have bx1_4 : w6.cell? ⟨bk_1, 4, none⟩ = some (.int .i64 (g16 s 8)) := (hk1.cell 4).trans rfl
      have fz1_4 := hk1.frozen 4
      have bx1_5 : w6.cell? ⟨bk_1, 5, none⟩ = some (.int .i64 (g16 s 10)) := (hk1.cell 5).trans rfl
      have fz1_5 := hk1.frozen 5
      have hc : ChgA (w.heap.size) w6 (w6.setCell ⟨w.heap.size, 4, none⟩ (.int .i64 0)) := (ChgA.refl _ _).set _ _
      have hko := hk0
      replace hk1 := hk1.chgA hc (by omega)
      replace hk0 : Blk (w6.setCell ⟨w.heap.size, 4, none⟩ (.int .i64 0)) (w.heap.size) 84 [.int .i64 0, .int .i64 0, .int .i64 0, .int .i64 0, .int .i64 0, .int .i64 0] := hk0.set_ 4 _
      have k7 : Below w.heap.size w (w6.setCell ⟨w.heap.size, 4, none⟩ (.int .i64 0)) := hc.below (by omega) k6
      have p7 : (w6.setCell ⟨w.heap.size, 4, none⟩ (.int .i64 0)).heap.size = w6.heap.size := hc.size
      have bl0 := Nat.lt_of_lt_of_le bl0 (Nat.le_of_eq p7.symm)
      have bl1 := Nat.lt_of_lt_of_le bl1 (Nat.le_of_eq p7.symm)
      generalize hW0 : (w6.setCell ⟨w.heap.size, 4, none⟩ (.int .i64 0)) = w7 at *
      clear hW0 hc hko
      clear bx0_0 fz0_0 bx0_1 fz0_1 bx0_2 fz0_2 bx0_3 fz0_3 bx0_4 fz0_4 bx0_5 fz0_5 bx1_0 fz1_0 bx1_1 fz1_1 bx1_2 fz1_2 bx1_3 fz1_3 bx1_4 fz1_4 bx1_5 fz1_5
      have bx0_0 : w7.cell? ⟨w.heap.size, 0, none⟩ = some (.int .i64 0) := (hk0.cell 0).trans rfl
      have fz0_0 := hk0.frozen 0
      have bx0_1 : w7.cell? ⟨w.heap.size, 1, none⟩ = some (.int .i64 0) := (hk0.cell 1).trans rfl
      have fz0_1 := hk0.frozen 1
      have bx0_2 : w7.cell? ⟨w.heap.size, 2, none⟩ = some (.int .i64 0) := (hk0.cell 2).trans rfl
      have fz0_2 := hk0.frozen 2
      have bx0_3 : w7.cell? ⟨w.heap.size, 3, none⟩ = some (.int .i64 0) := (hk0.cell 3).trans rfl
      have fz0_3 := hk0.frozen 3
      have bx0_4 : w7.cell? ⟨w.heap.size, 4, none⟩ = some (.int .i64 0) := (hk0.cell 4).trans rfl
      have fz0_4 := hk0.frozen 4
      have bx0_5 : w7.cell? ⟨w.heap.size, 5, none⟩ = some (.int .i64 0) := (hk0.cell 5).trans rfl
      have fz0_5 := hk0.frozen 5
      have bx1_0 : w7.cell? ⟨bk_1, 0, none⟩ = some (.int .i64 (byt s 0)) := (hk1.cell 0).trans rfl
      have fz1_0 := hk1.frozen 0
      have bx1_1 : w7.cell? ⟨bk_1, 1, none⟩ = some (.int .i64 (byt s 1)) := (hk1.cell 1).trans rfl
      have fz1_1 := hk1.frozen 1
      have bx1_2 : w7.cell? ⟨bk_1, 2, none⟩ = some (.int .i64 (g16 s 2)) := (hk1.cell 2).trans rfl
      have fz1_2 := hk1.frozen 2
      have bx1_3 : w7.cell? ⟨bk_1, 3, none⟩ = some (.int .i64 (g32 s 4)) := (hk1.cell 3).trans rfl
      have fz1_3 := hk1.frozen 3
      have bx1_4 : w7.cell? ⟨bk_1, 4, none⟩ = some (.int .i64 (g16 s 8)) := (hk1.cell 4).trans rfl
      have fz1_4 := hk1.frozen 4
      have bx1_5 : w7.cell? ⟨bk_1, 5, none⟩ = some (.int .i64 (g16 s 10)) := (hk1.cell 5).trans rfl
      have fz1_5 := hk1.frozen 5
      have hc : ChgA (w.heap.size) w7 (w7.setCell ⟨w.heap.size, 5, none⟩ (.int .i64 0)) := (ChgA.refl _ _).set _ _
      have hko := hk0
      replace hk1 := hk1.chgA hc (by omega)
      replace hk0 : Blk (w7.setCell ⟨w.heap.size, 5, none⟩ (.int .i64 0)) (w.heap.size) 84 [.int .i64 0, .int .i64 0, .int .i64 0, .int .i64 0, .int .i64 0, .int .i64 0] := hk0.set_ 5 _
      have k8 : Below w.heap.size w (w7.setCell ⟨w.heap.size, 5, none⟩ (.int .i64 0)) := hc.below (by omega) k7
      have p8 : (w7.setCell ⟨w.heap.size, 5, none⟩ (.int .i64 0)).heap.size = w7.heap.size := hc.size
      have bl0 := Nat.lt_of_lt_of_le bl0 (Nat.le_of_eq p8.symm)
      have bl1 := Nat.lt_of_lt_of_le bl1 (Nat.le_of_eq p8.symm)
      generalize hW0 : (w7.setCell ⟨w.heap.size, 5, none⟩ (.int .i64 0)) = w8 at *
      clear hW0 hc hko
      clear bx0_0 fz0_0 bx0_1 fz0_1 bx0_2 fz0_2 bx0_3 fz0_3 bx0_4 fz0_4 bx0_5 fz0_5 bx1_0 fz1_0 bx1_1 fz1_1 bx1_2 fz1_2 bx1_3 fz1_3 bx1_4 fz1_4 bx1_5 fz1_5
      have bx0_0 : w8.cell? ⟨w.heap.size, 0, none⟩ = some (.int .i64 0) := (hk0.cell 0).trans rfl
      have fz0_0 := hk0.frozen 0
      have bx0_1 : w8.cell? ⟨w.heap.size, 1, none⟩ = some (.int .i64 0) := (hk0.cell 1).trans rfl
      have fz0_1 := hk0.frozen 1
      have bx0_2 : w8.cell? ⟨w.heap.size, 2, none⟩ = some (.int .i64 0) := (hk0.cell 2).trans rfl
      have fz0_2 := hk0.frozen 2
      have bx0_3 : w8.cell? ⟨w.heap.size, 3, none⟩ = some (.int .i64 0) := (hk0.cell 3).trans rfl
      have fz0_3 := hk0.frozen 3
      have bx0_4 : w8.cell? ⟨w.heap.size, 4, none⟩ = some (.int .i64 0) := (hk0.cell 4).trans rfl
      have fz0_4 := hk0.frozen 4
      have bx0_5 : w8.cell? ⟨w.heap.size, 5, none⟩ = some (.int .i64 0) := (hk0.cell 5).trans rfl
      have fz0_5 := hk0.frozen 5
      have bx1_0 : w8.cell? ⟨bk_1, 0, none⟩ = some (.int .i64 (byt s 0)) := (hk1.cell 0).trans rfl
      have fz1_0 := hk1.frozen 0
      have bx1_1 : w8.cell? ⟨bk_1, 1, none⟩ = some (.int .i64 (byt s 1)) := (hk1.cell 1).trans rfl
      have fz1_1 := hk1.frozen 1
      have bx1_2 : w8.cell? ⟨bk_1, 2, none⟩ = some (.int .i64 (g16 s 2)) := (hk1.cell 2).trans rfl
      have fz1_2 := hk1.frozen 2
      have bx1_3 : w8.cell? ⟨bk_1, 3, none⟩ = some (.int .i64 (g32 s 4)) := (hk1.cell 3).trans rfl
      have fz1_3 := hk1.frozen 3
      have bx1_4 : w8.cell? ⟨bk_1, 4, none⟩ = some (.int .i64 (g16 s 8)) := (hk1.cell 4).trans rfl
      have fz1_4 := hk1.frozen 4
      have bx1_5 : w8.cell? ⟨bk_1, 5, none⟩ = some (.int .i64 (g16 s 10)) := (hk1.cell 5).trans rfl
      have fz1_5 := hk1.frozen 5
      refine bodyPost_ret (v := .tuple #[.agg #[.int .i64 0, .int .i64 0, .int .i64 0, .int .i64 0, .int .i64 0, .int .i64 0], .bool false]) (by simp [results, Try.results61, go_sem, bx0_0, bx0_1, bx0_2, bx0_3, bx0_4, bx0_5]) rfl ?_
      exact ⟨rfl, k8⟩
    · have hg : decB s = true := by rw [decB, hc, h16]; rfl
      rw [hg]
      simp only [decV_yes hg]
      clear hg h16
      go_enter Try.func61, Try.ntmps61
      go_wp2_with fail
      have k0 : Below w.heap.size w (w.alloc (.cells #[.int .i64 0, .int .i64 0, .int .i64 0, .int .i64 0, .int .i64 0, .int .i64 0] 84)) := by go_grown
      have bx0_0 : (w.alloc (.cells #[.int .i64 0, .int .i64 0, .int .i64 0, .int .i64 0, .int .i64 0, .int .i64 0] 84)).cell? ⟨w.heap.size, 0, none⟩ = some (.int .i64 0) := by simp [go_sem]
      have bx0_1 : (w.alloc (.cells #[.int .i64 0, .int .i64 0, .int .i64 0, .int .i64 0, .int .i64 0, .int .i64 0] 84)).cell? ⟨w.heap.size, 1, none⟩ = some (.int .i64 0) := by simp [go_sem]
      have bx0_2 : (w.alloc (.cells #[.int .i64 0, .int .i64 0, .int .i64 0, .int .i64 0, .int .i64 0, .int .i64 0] 84)).cell? ⟨w.heap.size, 2, none⟩ = some (.int .i64 0) := by simp [go_sem]
      have bx0_3 : (w.alloc (.cells #[.int .i64 0, .int .i64 0, .int .i64 0, .int .i64 0, .int .i64 0, .int .i64 0] 84)).cell? ⟨w.heap.size, 3, none⟩ = some (.int .i64 0) := by simp [go_sem]
      have bx0_4 : (w.alloc (.cells #[.int .i64 0, .int .i64 0, .int .i64 0, .int .i64 0, .int .i64 0, .int .i64 0] 84)).cell? ⟨w.heap.size, 4, none⟩ = some (.int .i64 0) := by simp [go_sem]
      have bx0_5 : (w.alloc (.cells #[.int .i64 0, .int .i64 0, .int .i64 0, .int .i64 0, .int .i64 0, .int .i64 0] 84)).cell? ⟨w.heap.size, 5, none⟩ = some (.int .i64 0) := by simp [go_sem]
      have bl0 : w.heap.size < (w.alloc (.cells #[.int .i64 0, .int .i64 0, .int .i64 0, .int .i64 0, .int .i64 0, .int .i64 0] 84)).heap.size := by go_size
      have hk0 : Blk (w.alloc (.cells #[.int .i64 0, .int .i64 0, .int .i64 0, .int .i64 0, .int .i64 0, .int .i64 0] 84)) (w.heap.size) 84 [.int .i64 0, .int .i64 0, .int .i64 0, .int .i64 0, .int .i64 0, .int .i64 0] := by simpa using Blk.new w 84 [.int .i64 0, .int .i64 0, .int .i64 0, .int .i64 0, .int .i64 0, .int .i64 0]
      have p0 := k0.size
      generalize hW0 : (w.alloc (.cells #[.int .i64 0, .int .i64 0, .int .i64 0, .int .i64 0, .int .i64 0, .int .i64 0] 84)) = w0 at *
      clear hW0
      clear bx0_0 bx0_1 bx0_2 bx0_3 bx0_4 bx0_5
      have bx0_0 : w0.cell? ⟨w.heap.size, 0, none⟩ = some (.int .i64 0) := (hk0.cell 0).trans rfl
      have fz0_0 := hk0.frozen 0
      have bx0_1 : w0.cell? ⟨w.heap.size, 1, none⟩ = some (.int .i64 0) := (hk0.cell 1).trans rfl
      have fz0_1 := hk0.frozen 1
      have bx0_2 : w0.cell? ⟨w.heap.size, 2, none⟩ = some (.int .i64 0) := (hk0.cell 2).trans rfl
      have fz0_2 := hk0.frozen 2
      have bx0_3 : w0.cell? ⟨w.heap.size, 3, none⟩ = some (.int .i64 0) := (hk0.cell 3).trans rfl
      have fz0_3 := hk0.frozen 3
      have bx0_4 : w0.cell? ⟨w.heap.size, 4, none⟩ = some (.int .i64 0) := (hk0.cell 4).trans rfl
      have fz0_4 := hk0.frozen 4
      have bx0_5 : w0.cell? ⟨w.heap.size, 5, none⟩ = some (.int .i64 0) := (hk0.cell 5).trans rfl
      have fz0_5 := hk0.frozen 5
      have hBB : w.heap.size ≤ w0.heap.size := by omega
      refine wp_region_slotsS (w.heap.size) [(9, fun _ v => v = .string s), (10, fun _ v => v = .int .u8 (byt s 0)), (11, fun _ v => v = .int .i64 (byt s 0)), (12, fun _ v => v = .string s), (13, fun _ v => v = .int .u8 (byt s 1)), (14, fun _ v => v = .int .i64 (byt s 1)), (15, fun _ v => v = .string s), (16, fun _ v => v = .int .i64 (g16 s 2)), (17, fun _ v => v = .string s), (18, fun _ v => v = .int .i64 (g32 s 4)), (19, fun _ v => v = .string s), (20, fun _ v => v = .int .i64 (g16 s 8)), (21, fun _ v => v = .string s), (22, fun _ v => v = .int .i64 (g16 s 10)), (23, fun _ v => v = .agg #[.int .i64 (byt s 0), .int .i64 (byt s 1), .int .i64 (g16 s 2), .int .i64 (g32 s 4), .int .i64 (g16 s 8), .int .i64 (g16 s 10)]), (4, BoxP w0.heap.size 84 6)] [⟨16, 4, fun _ => True, StoP w0.heap.size 84 [.int .i64 (byt s 0), .int .i64 (byt s 1), .int .i64 (g16 s 2), .int .i64 (g32 s 4), .int .i64 (g16 s 8), .int .i64 (g16 s 10)]⟩] (fun u => Blk u (w.heap.size) 84 [.int .i64 0, .int .i64 0, .int .i64 0, .int .i64 0, .int .i64 0, .int .i64 0]) (by kernel_rfl) hBB (by kernel_rfl) (by kernel_rfl) (by kernel_rfl) (by kernel_rfl) ?_ ?_ ?_ ?_ ?_ ?_ ?_
      · intro p hp
        simp only [List.mem_cons, List.not_mem_nil, or_false] at hp
        rcases hp with rfl | rfl | rfl | rfl | rfl | rfl | rfl | rfl | rfl | rfl | rfl | rfl | rfl | rfl | rfl | rfl
        all_goals (intro u u' v hb hv; first | exact hv | exact BoxP.keep hv hb | exact RowP.keep hv hb)
      · intro s hs u u' hb
        simp only [List.mem_cons, List.not_mem_nil, or_false] at hs
        rcases hs with rfl
        all_goals (refine ⟨fun h => ?_, fun _ h => ?_⟩ <;> first | exact h | exact StoP.keep h hb | exact StoR.keep h hb | exact Blk.ext h hb | exact StaR.keep h hb)
      · intro s hs
        simp only [List.mem_cons, List.not_mem_nil, or_false] at hs
        rcases hs with rfl
        all_goals first | trivial
      · exact hk0
      · intro u u' hb hj
        have j0 := hj
        exact (j0.ext hb)
      · intro hGk hSk hJk
        refine allStep_cons (stepS_plain hGk hSk hBB hJk (by kernel_rfl) rfl ?_) ?_
        · intro a u hb hz hj hl hp K Q hK
          have e0 : a.tmps[0]?.getD undef = .string s := gd (hl 0 (by kernel_rfl))
          go_simp
          exact hK _ _ (Below.refl _ _) (by intro d hd; cases hd; exact rfl)
        refine allStep_cons (stepS_plain hGk hSk hBB hJk (by kernel_rfl) rfl ?_) ?_
        · intro a u hb hz hj hl hp K Q hK
          have e9 : a.tmps[9]?.getD undef = .string s := gd (hl 9 (by kernel_rfl))
          go_simp
          exact hK _ _ (Below.refl _ _) (by intro d hd; cases hd; exact rfl)
        refine allStep_cons (stepS_plain hGk hSk hBB hJk (by kernel_rfl) rfl ?_) ?_
        · intro a u hb hz hj hl hp K Q hK
          have e10 : a.tmps[10]?.getD undef = .int .u8 (byt s 0) := gd (hl 10 (by kernel_rfl))
          have ew : IntKind.i64.wrap (byt s 0) = byt s 0 := IntWalk.i64_in _ ⟨by omega, by omega⟩
          go_simp
          exact hK _ _ (Below.refl _ _) (by intro d hd; cases hd; exact rfl)
        refine allStep_cons (stepS_plain hGk hSk hBB hJk (by kernel_rfl) rfl ?_) ?_
        · intro a u hb hz hj hl hp K Q hK
          have e0 : a.tmps[0]?.getD undef = .string s := gd (hl 0 (by kernel_rfl))
          go_simp
          exact hK _ _ (Below.refl _ _) (by intro d hd; cases hd; exact rfl)
        refine allStep_cons (stepS_plain hGk hSk hBB hJk (by kernel_rfl) rfl ?_) ?_
        · intro a u hb hz hj hl hp K Q hK
          have e12 : a.tmps[12]?.getD undef = .string s := gd (hl 12 (by kernel_rfl))
          go_simp
          exact hK _ _ (Below.refl _ _) (by intro d hd; cases hd; exact rfl)
        refine allStep_cons (stepS_plain hGk hSk hBB hJk (by kernel_rfl) rfl ?_) ?_
        · intro a u hb hz hj hl hp K Q hK
          have e13 : a.tmps[13]?.getD undef = .int .u8 (byt s 1) := gd (hl 13 (by kernel_rfl))
          have ew : IntKind.i64.wrap (byt s 1) = byt s 1 := IntWalk.i64_in _ ⟨by omega, by omega⟩
          go_simp
          exact hK _ _ (Below.refl _ _) (by intro d hd; cases hd; exact rfl)
        refine allStep_cons (stepS_plain hGk hSk hBB hJk (by kernel_rfl) rfl ?_) ?_
        · intro a u hb hz hj hl hp K Q hK
          have e0 : a.tmps[0]?.getD undef = .string s := gd (hl 0 (by kernel_rfl))
          go_simp
          exact hK _ _ (Below.refl _ _) (by intro d hd; cases hd; exact rfl)
        refine allStep_cons (stepS_plain hGk hSk hBB hJk (by kernel_rfl) rfl ?_) ?_
        · intro a u hb hz hj hl hp K Q hK
          have e15 : a.tmps[15]?.getD undef = .string s := gd (hl 15 (by kernel_rfl))
          go_simp
          refine (implGet16_c _ _ _ (by omega) ⟨by omega, by omega⟩).mono ?_
          rintro e u1 ⟨rfl, hb1⟩
          exact hK _ _ hb1 (by intro d hd; cases hd; exact rfl)
        refine allStep_cons (stepS_plain hGk hSk hBB hJk (by kernel_rfl) rfl ?_) ?_
        · intro a u hb hz hj hl hp K Q hK
          have e0 : a.tmps[0]?.getD undef = .string s := gd (hl 0 (by kernel_rfl))
          go_simp
          exact hK _ _ (Below.refl _ _) (by intro d hd; cases hd; exact rfl)
        refine allStep_cons (stepS_plain hGk hSk hBB hJk (by kernel_rfl) rfl ?_) ?_
        · intro a u hb hz hj hl hp K Q hK
          have e17 : a.tmps[17]?.getD undef = .string s := gd (hl 17 (by kernel_rfl))
          go_simp
          refine (implGet32_c _ _ _ (by omega) ⟨by omega, by omega⟩).mono ?_
          rintro e u1 ⟨rfl, hb1⟩
          exact hK _ _ hb1 (by intro d hd; cases hd; exact rfl)
        refine allStep_cons (stepS_plain hGk hSk hBB hJk (by kernel_rfl) rfl ?_) ?_
        · intro a u hb hz hj hl hp K Q hK
          have e0 : a.tmps[0]?.getD undef = .string s := gd (hl 0 (by kernel_rfl))
          go_simp
          exact hK _ _ (Below.refl _ _) (by intro d hd; cases hd; exact rfl)
        refine allStep_cons (stepS_plain hGk hSk hBB hJk (by kernel_rfl) rfl ?_) ?_
        · intro a u hb hz hj hl hp K Q hK
          have e19 : a.tmps[19]?.getD undef = .string s := gd (hl 19 (by kernel_rfl))
          go_simp
          refine (implGet16_c _ _ _ (by omega) ⟨by omega, by omega⟩).mono ?_
          rintro e u1 ⟨rfl, hb1⟩
          exact hK _ _ hb1 (by intro d hd; cases hd; exact rfl)
        refine allStep_cons (stepS_plain hGk hSk hBB hJk (by kernel_rfl) rfl ?_) ?_
        · intro a u hb hz hj hl hp K Q hK
          have e0 : a.tmps[0]?.getD undef = .string s := gd (hl 0 (by kernel_rfl))
          go_simp
          exact hK _ _ (Below.refl _ _) (by intro d hd; cases hd; exact rfl)
        refine allStep_cons (stepS_plain hGk hSk hBB hJk (by kernel_rfl) rfl ?_) ?_
        · intro a u hb hz hj hl hp K Q hK
          have e21 : a.tmps[21]?.getD undef = .string s := gd (hl 21 (by kernel_rfl))
          go_simp
          refine (implGet16_c _ _ _ (by omega) ⟨by omega, by omega⟩).mono ?_
          rintro e u1 ⟨rfl, hb1⟩
          exact hK _ _ hb1 (by intro d hd; cases hd; exact rfl)
        refine allStep_cons (stepS_plain hGk hSk hBB hJk (by kernel_rfl) rfl ?_) ?_
        · intro a u hb hz hj hl hp K Q hK
          have e11 : a.tmps[11]?.getD undef = .int .i64 (byt s 0) := gd (hl 11 (by kernel_rfl))
          have e14 : a.tmps[14]?.getD undef = .int .i64 (byt s 1) := gd (hl 14 (by kernel_rfl))
          have e16 : a.tmps[16]?.getD undef = .int .i64 (g16 s 2) := gd (hl 16 (by kernel_rfl))
          have e18 : a.tmps[18]?.getD undef = .int .i64 (g32 s 4) := gd (hl 18 (by kernel_rfl))
          have e20 : a.tmps[20]?.getD undef = .int .i64 (g16 s 8) := gd (hl 20 (by kernel_rfl))
          have e22 : a.tmps[22]?.getD undef = .int .i64 (g16 s 10) := gd (hl 22 (by kernel_rfl))
          go_simp
          exact hK _ _ (Below.refl _ _) (by intro d hd; cases hd; exact rfl)
        refine allStep_cons (stepS_plain hGk hSk hBB hJk (by kernel_rfl) rfl ?_) ?_
        · intro a u hb hz hj hl hp K Q hK
          go_simp
          exact hK _ _ (by go_grown) (by intro d hd; cases hd; exact BoxP.new _ _ [.int .i64 0, .int .i64 0, .int .i64 0, .int .i64 0, .int .i64 0, .int .i64 0] (by omega) rfl)
        refine allStep_cons (stepS_store (Chg w0.heap.size 84) (fun _ _ hc hb => hc.below' (by omega) hb) (fun _ _ hc => hc.size) (hold_rel ?_) ?_ ?_ rfl rfl ?_) ?_
        · intro p hp
          simp only [List.mem_cons, List.not_mem_nil, or_false] at hp
          rcases hp with rfl | rfl | rfl | rfl | rfl | rfl | rfl | rfl | rfl | rfl | rfl | rfl | rfl | rfl | rfl | rfl
          all_goals (intro u u' v hb hv; first | exact hv | exact BoxP.chg hv hb | exact RowP.chg hv hb (by decide))
        · intro s hs hne u u' hb
          simp only [List.mem_cons, List.not_mem_nil, or_false] at hs
          rcases hs with rfl
          all_goals first | exact absurd (by rfl) hne | (refine ⟨fun h => ?_, fun _ h => ?_⟩ <;> first | exact h | exact StoP.chg h hb (by decide) | exact StoR.chg h hb (by decide) (by decide) | exact Blk.chgL h hb (by omega) | exact StaR.chgL h hb (by omega) (by decide))
        · intro u u' hb hj
          have j0 := hj
          exact (j0.chgL hb (by omega))
        · intro a u hb hz hj hl hp K Q hK
          obtain ⟨b, exb, hB, zs, hzl, hbk⟩ : BoxP w0.heap.size 84 6 u (a.tmps.getD 4 undef) := hl 4 (by kernel_rfl)
          have e4 := gd exb
          have e23 : a.tmps[23]?.getD undef = .agg #[.int .i64 (byt s 0), .int .i64 (byt s 1), .int .i64 (g16 s 2), .int .i64 (g32 s 4), .int .i64 (g16 s 8), .int .i64 (g16 s 10)] := gd (hl 23 (by kernel_rfl))
          obtain ⟨z0, z1, z2, z3, z4, z5, rfl⟩ : ∃ z0 z1 z2 z3 z4 z5, zs = [z0, z1, z2, z3, z4, z5] := (by match zs, hzl with | [z0, z1, z2, z3, z4, z5], _ => exact ⟨_, _, _, _, _, _, rfl⟩)
          have hlt := hbk.lt
          have g0 : u.cell? ⟨b, 0, none⟩ = some z0 := (hbk.cell 0).trans rfl
          have f0 := hbk.frozen 0
          have g1 : u.cell? ⟨b, 1, none⟩ = some z1 := (hbk.cell 1).trans rfl
          have f1 := hbk.frozen 1
          have g2 : u.cell? ⟨b, 2, none⟩ = some z2 := (hbk.cell 2).trans rfl
          have f2 := hbk.frozen 2
          have g3 : u.cell? ⟨b, 3, none⟩ = some z3 := (hbk.cell 3).trans rfl
          have f3 := hbk.frozen 3
          have g4 : u.cell? ⟨b, 4, none⟩ = some z4 := (hbk.cell 4).trans rfl
          have f4 := hbk.frozen 4
          have g5 : u.cell? ⟨b, 5, none⟩ = some z5 := (hbk.cell 5).trans rfl
          have f5 := hbk.frozen 5
          go_simp
          refine hK undef _ (((((((Chg.refl _ _ _).set hbk hB 0 _).set (hbk.set_ 0 _) hB 1 _).set ((hbk.set_ 0 _).set_ 1 _) hB 2 _).set (((hbk.set_ 0 _).set_ 1 _).set_ 2 _) hB 3 _).set ((((hbk.set_ 0 _).set_ 1 _).set_ 2 _).set_ 3 _) hB 4 _).set (((((hbk.set_ 0 _).set_ 1 _).set_ 2 _).set_ 3 _).set_ 4 _) hB 5 _) (fun s hs he => ?_)
          simp only [List.mem_cons, List.not_mem_nil, or_false] at hs
          rcases hs with rfl
          · exact ⟨b, exb, hB, ((((((hbk.set_ 0 _).set_ 1 _).set_ 2 _).set_ 3 _).set_ 4 _).set_ 5 _)⟩
        exact allStep_nil
      intro xT w1 hb hz hj hL hSt
      clear bx0_0 fz0_0 bx0_1 fz0_1 bx0_2 fz0_2 bx0_3 fz0_3 bx0_4 fz0_4 bx0_5 fz0_5 hk0
      have hk0 : (fun u => Blk u (w.heap.size) 84 [.int .i64 0, .int .i64 0, .int .i64 0, .int .i64 0, .int .i64 0, .int .i64 0]) w1 := hj
      dsimp only at hk0
      obtain ⟨bk_1, fx4, lo1, hk1⟩ : StoP w0.heap.size 84 [.int .i64 (byt s 0), .int .i64 (byt s 1), .int .i64 (g16 s 2), .int .i64 (g32 s 4), .int .i64 (g16 s 8), .int .i64 (g16 s 10)] w1 (xT 4) := hSt _ (List.mem_of_getElem? (i := 0) rfl)
      simp only [List.map, putAll, fx4]
      have bl1 := hk1.lt
      have k1 : Below w.heap.size w w1 := k0.trans hb
      have p1 : w0.heap.size ≤ w1.heap.size := hb.size
      have bl0 := Nat.lt_of_lt_of_le bl0 hb.size
      have bx0_0 : w1.cell? ⟨w.heap.size, 0, none⟩ = some (.int .i64 0) := (hk0.cell 0).trans rfl
      have fz0_0 := hk0.frozen 0
      have bx0_1 : w1.cell? ⟨w.heap.size, 1, none⟩ = some (.int .i64 0) := (hk0.cell 1).trans rfl
      have fz0_1 := hk0.frozen 1
      have bx0_2 : w1.cell? ⟨w.heap.size, 2, none⟩ = some (.int .i64 0) := (hk0.cell 2).trans rfl
      have fz0_2 := hk0.frozen 2
      have bx0_3 : w1.cell? ⟨w.heap.size, 3, none⟩ = some (.int .i64 0) := (hk0.cell 3).trans rfl
      have fz0_3 := hk0.frozen 3
      have bx0_4 : w1.cell? ⟨w.heap.size, 4, none⟩ = some (.int .i64 0) := (hk0.cell 4).trans rfl
      have fz0_4 := hk0.frozen 4
      have bx0_5 : w1.cell? ⟨w.heap.size, 5, none⟩ = some (.int .i64 0) := (hk0.cell 5).trans rfl
      have fz0_5 := hk0.frozen 5
      have bx1_0 : w1.cell? ⟨bk_1, 0, none⟩ = some (.int .i64 (byt s 0)) := (hk1.cell 0).trans rfl
      have fz1_0 := hk1.frozen 0
      have bx1_1 : w1.cell? ⟨bk_1, 1, none⟩ = some (.int .i64 (byt s 1)) := (hk1.cell 1).trans rfl
      have fz1_1 := hk1.frozen 1
      have bx1_2 : w1.cell? ⟨bk_1, 2, none⟩ = some (.int .i64 (g16 s 2)) := (hk1.cell 2).trans rfl
      have fz1_2 := hk1.frozen 2
      have bx1_3 : w1.cell? ⟨bk_1, 3, none⟩ = some (.int .i64 (g32 s 4)) := (hk1.cell 3).trans rfl
      have fz1_3 := hk1.frozen 3
      have bx1_4 : w1.cell? ⟨bk_1, 4, none⟩ = some (.int .i64 (g16 s 8)) := (hk1.cell 4).trans rfl
      have fz1_4 := hk1.frozen 4
      have bx1_5 : w1.cell? ⟨bk_1, 5, none⟩ = some (.int .i64 (g16 s 10)) := (hk1.cell 5).trans rfl
      have fz1_5 := hk1.frozen 5
      clear hL hSt hb hz fx4
      go_wp2_with fail
      refine (implEncodeDesc_c _ _ _ _ _ _ _ q2 q3 q4 q5).mono ?_
      rintro e w2 ⟨rfl, hb⟩
      have k2 : Below w.heap.size w w2 := ext_step k1 (by omega) hb
      have p2 := hb.size
      replace hk0 := hk0.ext hb
      replace hk1 := hk1.ext hb
      clear bx0_0 fz0_0 bx0_1 fz0_1 bx0_2 fz0_2 bx0_3 fz0_3 bx0_4 fz0_4 bx0_5 fz0_5 bx1_0 fz1_0 bx1_1 fz1_1 bx1_2 fz1_2 bx1_3 fz1_3 bx1_4 fz1_4 bx1_5 fz1_5
      have bx0_0 : w2.cell? ⟨w.heap.size, 0, none⟩ = some (.int .i64 0) := (hk0.cell 0).trans rfl
      have fz0_0 := hk0.frozen 0
      have bx0_1 : w2.cell? ⟨w.heap.size, 1, none⟩ = some (.int .i64 0) := (hk0.cell 1).trans rfl
      have fz0_1 := hk0.frozen 1
      have bx0_2 : w2.cell? ⟨w.heap.size, 2, none⟩ = some (.int .i64 0) := (hk0.cell 2).trans rfl
      have fz0_2 := hk0.frozen 2
      have bx0_3 : w2.cell? ⟨w.heap.size, 3, none⟩ = some (.int .i64 0) := (hk0.cell 3).trans rfl
      have fz0_3 := hk0.frozen 3
      have bx0_4 : w2.cell? ⟨w.heap.size, 4, none⟩ = some (.int .i64 0) := (hk0.cell 4).trans rfl
      have fz0_4 := hk0.frozen 4
      have bx0_5 : w2.cell? ⟨w.heap.size, 5, none⟩ = some (.int .i64 0) := (hk0.cell 5).trans rfl
      have fz0_5 := hk0.frozen 5
      have bx1_0 : w2.cell? ⟨bk_1, 0, none⟩ = some (.int .i64 (byt s 0)) := (hk1.cell 0).trans rfl
      have fz1_0 := hk1.frozen 0
      have bx1_1 : w2.cell? ⟨bk_1, 1, none⟩ = some (.int .i64 (byt s 1)) := (hk1.cell 1).trans rfl
      have fz1_1 := hk1.frozen 1
      have bx1_2 : w2.cell? ⟨bk_1, 2, none⟩ = some (.int .i64 (g16 s 2)) := (hk1.cell 2).trans rfl
      have fz1_2 := hk1.frozen 2
      have bx1_3 : w2.cell? ⟨bk_1, 3, none⟩ = some (.int .i64 (g32 s 4)) := (hk1.cell 3).trans rfl
      have fz1_3 := hk1.frozen 3
      have bx1_4 : w2.cell? ⟨bk_1, 4, none⟩ = some (.int .i64 (g16 s 8)) := (hk1.cell 4).trans rfl
      have fz1_4 := hk1.frozen 4
      have bx1_5 : w2.cell? ⟨bk_1, 5, none⟩ = some (.int .i64 (g16 s 10)) := (hk1.cell 5).trans rfl
      have fz1_5 := hk1.frozen 5
      have bl0 := Nat.lt_of_lt_of_le bl0 hb.size
      have bl1 := Nat.lt_of_lt_of_le bl1 hb.size
      clear hb
      go_wp2_with fail
      have hc : ChgA (w.heap.size) w2 (w2.setCell ⟨w.heap.size, 0, none⟩ (.int .i64 (byt s 0))) := (ChgA.refl _ _).set _ _
      have hko := hk0
      replace hk1 := hk1.chgA hc (by omega)
      replace hk0 : Blk (w2.setCell ⟨w.heap.size, 0, none⟩ (.int .i64 (byt s 0))) (w.heap.size) 84 [.int .i64 (byt s 0), .int .i64 0, .int .i64 0, .int .i64 0, .int .i64 0, .int .i64 0] := hk0.set_ 0 _
      have k3 : Below w.heap.size w (w2.setCell ⟨w.heap.size, 0, none⟩ (.int .i64 (byt s 0))) := hc.below (by omega) k2
      have p3 : (w2.setCell ⟨w.heap.size, 0, none⟩ (.int .i64 (byt s 0))).heap.size = w2.heap.size := hc.size
      have bl0 := Nat.lt_of_lt_of_le bl0 (Nat.le_of_eq p3.symm)
      have bl1 := Nat.lt_of_lt_of_le bl1 (Nat.le_of_eq p3.symm)
      generalize hW0 : (w2.setCell ⟨w.heap.size, 0, none⟩ (.int .i64 (byt s 0))) = w3 at *
      clear hW0 hc hko
      clear bx0_0 fz0_0 bx0_1 fz0_1 bx0_2 fz0_2 bx0_3 fz0_3 bx0_4 fz0_4 bx0_5 fz0_5 bx1_0 fz1_0 bx1_1 fz1_1 bx1_2 fz1_2 bx1_3 fz1_3 bx1_4 fz1_4 bx1_5 fz1_5
      have bx0_0 : w3.cell? ⟨w.heap.size, 0, none⟩ = some (.int .i64 (byt s 0)) := (hk0.cell 0).trans rfl
      have fz0_0 := hk0.frozen 0
      have bx0_1 : w3.cell? ⟨w.heap.size, 1, none⟩ = some (.int .i64 0) := (hk0.cell 1).trans rfl
      have fz0_1 := hk0.frozen 1
      have bx0_2 : w3.cell? ⟨w.heap.size, 2, none⟩ = some (.int .i64 0) := (hk0.cell 2).trans rfl
      have fz0_2 := hk0.frozen 2
      have bx0_3 : w3.cell? ⟨w.heap.size, 3, none⟩ = some (.int .i64 0) := (hk0.cell 3).trans rfl
      have fz0_3 := hk0.frozen 3
      have bx0_4 : w3.cell? ⟨w.heap.size, 4, none⟩ = some (.int .i64 0) := (hk0.cell 4).trans rfl
      have fz0_4 := hk0.frozen 4
      have bx0_5 : w3.cell? ⟨w.heap.size, 5, none⟩ = some (.int .i64 0) := (hk0.cell 5).trans rfl
      have fz0_5 := hk0.frozen 5
      have bx1_0 : w3.cell? ⟨bk_1, 0, none⟩ = some (.int .i64 (byt s 0)) := (hk1.cell 0).trans rfl
      have fz1_0 := hk1.frozen 0
      have bx1_1 : w3.cell? ⟨bk_1, 1, none⟩ = some (.int .i64 (byt s 1)) := (hk1.cell 1).trans rfl
      have fz1_1 := hk1.frozen 1
      have bx1_2 : w3.cell? ⟨bk_1, 2, none⟩ = some (.int .i64 (g16 s 2)) := (hk1.cell 2).trans rfl
      have fz1_2 := hk1.frozen 2
      have bx1_3 : w3.cell? ⟨bk_1, 3, none⟩ = some (.int .i64 (g32 s 4)) := (hk1.cell 3).trans rfl
      have fz1_3 := hk1.frozen 3
      have bx1_4 : w3.cell? ⟨bk_1, 4, none⟩ = some (.int .i64 (g16 s 8)) := (hk1.cell 4).trans rfl
      have fz1_4 := hk1.frozen 4
      have bx1_5 : w3.cell? ⟨bk_1, 5, none⟩ = some (.int .i64 (g16 s 10)) := (hk1.cell 5).trans rfl
      have fz1_5 := hk1.frozen 5
      have hc : ChgA (w.heap.size) w3 (w3.setCell ⟨w.heap.size, 1, none⟩ (.int .i64 (byt s 1))) := (ChgA.refl _ _).set _ _
      have hko := hk0
      replace hk1 := hk1.chgA hc (by omega)
      replace hk0 : Blk (w3.setCell ⟨w.heap.size, 1, none⟩ (.int .i64 (byt s 1))) (w.heap.size) 84 [.int .i64 (byt s 0), .int .i64 (byt s 1), .int .i64 0, .int .i64 0, .int .i64 0, .int .i64 0] := hk0.set_ 1 _
      have k4 : Below w.heap.size w (w3.setCell ⟨w.heap.size, 1, none⟩ (.int .i64 (byt s 1))) := hc.below (by omega) k3
      have p4 : (w3.setCell ⟨w.heap.size, 1, none⟩ (.int .i64 (byt s 1))).heap.size = w3.heap.size := hc.size
      have bl0 := Nat.lt_of_lt_of_le bl0 (Nat.le_of_eq p4.symm)
      have bl1 := Nat.lt_of_lt_of_le bl1 (Nat.le_of_eq p4.symm)
      generalize hW0 : (w3.setCell ⟨w.heap.size, 1, none⟩ (.int .i64 (byt s 1))) = w4 at *
      clear hW0 hc hko
      clear bx0_0 fz0_0 bx0_1 fz0_1 bx0_2 fz0_2 bx0_3 fz0_3 bx0_4 fz0_4 bx0_5 fz0_5 bx1_0 fz1_0 bx1_1 fz1_1 bx1_2 fz1_2 bx1_3 fz1_3 bx1_4 fz1_4 bx1_5 fz1_5
      have bx0_0 : w4.cell? ⟨w.heap.size, 0, none⟩ = some (.int .i64 (byt s 0)) := (hk0.cell 0).trans rfl
      have fz0_0 := hk0.frozen 0
      have bx0_1 : w4.cell? ⟨w.heap.size, 1, none⟩ = some (.int .i64 (byt s 1)) := (hk0.cell 1).trans rfl
      have fz0_1 := hk0.frozen 1
      have bx0_2 : w4.cell? ⟨w.heap.size, 2, none⟩ = some (.int .i64 0) := (hk0.cell 2).trans rfl
      have fz0_2 := hk0.frozen 2
      have bx0_3 : w4.cell? ⟨w.heap.size, 3, none⟩ = some (.int .i64 0) := (hk0.cell 3).trans rfl
      have fz0_3 := hk0.frozen 3
      have bx0_4 : w4.cell? ⟨w.heap.size, 4, none⟩ = some (.int .i64 0) := (hk0.cell 4).trans rfl
      have fz0_4 := hk0.frozen 4
      have bx0_5 : w4.cell? ⟨w.heap.size, 5, none⟩ = some (.int .i64 0) := (hk0.cell 5).trans rfl
      have fz0_5 := hk0.frozen 5
      have bx1_0 : w4.cell? ⟨bk_1, 0, none⟩ = some (.int .i64 (byt s 0)) := (hk1.cell 0).trans rfl
      have fz1_0 := hk1.frozen 0
      have bx1_1 : w4.cell? ⟨bk_1, 1, none⟩ = some (.int .i64 (byt s 1)) := (hk1.cell 1).trans rfl
      have fz1_1 := hk1.frozen 1
      have bx1_2 : w4.cell? ⟨bk_1, 2, none⟩ = some (.int .i64 (g16 s 2)) := (hk1.cell 2).trans rfl
      have fz1_2 := hk1.frozen 2
      have bx1_3 : w4.cell? ⟨bk_1, 3, none⟩ = some (.int .i64 (g32 s 4)) := (hk1.cell 3).trans rfl
      have fz1_3 := hk1.frozen 3
      have bx1_4 : w4.cell? ⟨bk_1, 4, none⟩ = some (.int .i64 (g16 s 8)) := (hk1.cell 4).trans rfl
      have fz1_4 := hk1.frozen 4
      have bx1_5 : w4.cell? ⟨bk_1, 5, none⟩ = some (.int .i64 (g16 s 10)) := (hk1.cell 5).trans rfl
      have fz1_5 := hk1.frozen 5
      have hc : ChgA (w.heap.size) w4 (w4.setCell ⟨w.heap.size, 2, none⟩ (.int .i64 (g16 s 2))) := (ChgA.refl _ _).set _ _
      have hko := hk0
      replace hk1 := hk1.chgA hc (by omega)
      replace hk0 : Blk (w4.setCell ⟨w.heap.size, 2, none⟩ (.int .i64 (g16 s 2))) (w.heap.size) 84 [.int .i64 (byt s 0), .int .i64 (byt s 1), .int .i64 (g16 s 2), .int .i64 0, .int .i64 0, .int .i64 0] := hk0.set_ 2 _
      have k5 : Below w.heap.size w (w4.setCell ⟨w.heap.size, 2, none⟩ (.int .i64 (g16 s 2))) := hc.below (by omega) k4
      have p5 : (w4.setCell ⟨w.heap.size, 2, none⟩ (.int .i64 (g16 s 2))).heap.size = w4.heap.size := hc.size
      have bl0 := Nat.lt_of_lt_of_le bl0 (Nat.le_of_eq p5.symm)
      have bl1 := Nat.lt_of_lt_of_le bl1 (Nat.le_of_eq p5.symm)
      generalize hW0 : (w4.setCell ⟨w.heap.size, 2, none⟩ (.int .i64 (g16 s 2))) = w5 at *
      clear hW0 hc hko
      clear bx0_0 fz0_0 bx0_1 fz0_1 bx0_2 fz0_2 bx0_3 fz0_3 bx0_4 fz0_4 bx0_5 fz0_5 bx1_0 fz1_0 bx1_1 fz1_1 bx1_2 fz1_2 bx1_3 fz1_3 bx1_4 fz1_4 bx1_5 fz1_5
      have bx0_0 : w5.cell? ⟨w.heap.size, 0, none⟩ = some (.int .i64 (byt s 0)) := (hk0.cell 0).trans rfl
      have fz0_0 := hk0.frozen 0
      have bx0_1 : w5.cell? ⟨w.heap.size, 1, none⟩ = some (.int .i64 (byt s 1)) := (hk0.cell 1).trans rfl
      have fz0_1 := hk0.frozen 1
      have bx0_2 : w5.cell? ⟨w.heap.size, 2, none⟩ = some (.int .i64 (g16 s 2)) := (hk0.cell 2).trans rfl
      have fz0_2 := hk0.frozen 2
      have bx0_3 : w5.cell? ⟨w.heap.size, 3, none⟩ = some (.int .i64 0) := (hk0.cell 3).trans rfl
      have fz0_3 := hk0.frozen 3
      have bx0_4 : w5.cell? ⟨w.heap.size, 4, none⟩ = some (.int .i64 0) := (hk0.cell 4).trans rfl
      have fz0_4 := hk0.frozen 4
      have bx0_5 : w5.cell? ⟨w.heap.size, 5, none⟩ = some (.int .i64 0) := (hk0.cell 5).trans rfl
      have fz0_5 := hk0.frozen 5
      have bx1_0 : w5.cell? ⟨bk_1, 0, none⟩ = some (.int .i64 (byt s 0)) := (hk1.cell 0).trans rfl
      have fz1_0 := hk1.frozen 0
      have bx1_1 : w5.cell? ⟨bk_1, 1, none⟩ = some (.int .i64 (byt s 1)) := (hk1.cell 1).trans rfl
      have fz1_1 := hk1.frozen 1
      have bx1_2 : w5.cell? ⟨bk_1, 2, none⟩ = some (.int .i64 (g16 s 2)) := (hk1.cell 2).trans rfl
      have fz1_2 := hk1.frozen 2
      have bx1_3 : w5.cell? ⟨bk_1, 3, none⟩ = some (.int .i64 (g32 s 4)) := (hk1.cell 3).trans rfl
      have fz1_3 := hk1.frozen 3
      have bx1_4 : w5.cell? ⟨bk_1, 4, none⟩ = some (.int .i64 (g16 s 8)) := (hk1.cell 4).trans rfl
      have fz1_4 := hk1.frozen 4
      have bx1_5 : w5.cell? ⟨bk_1, 5, none⟩ = some (.int .i64 (g16 s 10)) := (hk1.cell 5).trans rfl
      have fz1_5 := hk1.frozen 5
      have hc : ChgA (w.heap.size) w5 (w5.setCell ⟨w.heap.size, 3, none⟩ (.int .i64 (g32 s 4))) := (ChgA.refl _ _).set _ _
      have hko := hk0
      replace hk1 := hk1.chgA hc (by omega)
      replace hk0 : Blk (w5.setCell ⟨w.heap.size, 3, none⟩ (.int .i64 (g32 s 4))) (w.heap.size) 84 [.int .i64 (byt s 0), .int .i64 (byt s 1), .int .i64 (g16 s 2), .int .i64 (g32 s 4), .int .i64 0, .int .i64 0] := hk0.set_ 3 _
      have k6 : Below w.heap.size w (w5.setCell ⟨w.heap.size, 3, none⟩ (.int .i64 (g32 s 4))) := hc.below (by omega) k5
      have p6 : (w5.setCell ⟨w.heap.size, 3, none⟩ (.int .i64 (g32 s 4))).heap.size = w5.heap.size := hc.size
      have bl0 := Nat.lt_of_lt_of_le bl0 (Nat.le_of_eq p6.symm)
      have bl1 := Nat.lt_of_lt_of_le bl1 (Nat.le_of_eq p6.symm)
      generalize hW0 : (w5.setCell ⟨w.heap.size, 3, none⟩ (.int .i64 (g32 s 4))) = w6 at *
      clear hW0 hc hko
      clear bx0_0 fz0_0 bx0_1 fz0_1 bx0_2 fz0_2 bx0_3 fz0_3 bx0_4 fz0_4 bx0_5 fz0_5 bx1_0 fz1_0 bx1_1 fz1_1 bx1_2 fz1_2 bx1_3 fz1_3 bx1_4 fz1_4 bx1_5 fz1_5
      have bx0_0 : w6.cell? ⟨w.heap.size, 0, none⟩ = some (.int .i64 (byt s 0)) := (hk0.cell 0).trans rfl
      have fz0_0 := hk0.frozen 0
      have bx0_1 : w6.cell? ⟨w.heap.size, 1, none⟩ = some (.int .i64 (byt s 1)) := (hk0.cell 1).trans rfl
      have fz0_1 := hk0.frozen 1
      have bx0_2 : w6.cell? ⟨w.heap.size, 2, none⟩ = some (.int .i64 (g16 s 2)) := (hk0.cell 2).trans rfl
      have fz0_2 := hk0.frozen 2
      have bx0_3 : w6.cell? ⟨w.heap.size, 3, none⟩ = some (.int .i64 (g32 s 4)) := (hk0.cell 3).trans rfl
      have fz0_3 := hk0.frozen 3
      have bx0_4 : w6.cell? ⟨w.heap.size, 4, none⟩ = some (.int .i64 0) := (hk0.cell 4).trans rfl
      have fz0_4 := hk0.frozen 4
      have bx0_5 : w6.cell? ⟨w.heap.size, 5, none⟩ = some (.int .i64 0) := (hk0.cell 5).trans rfl
      have fz0_5 := hk0.frozen 5
      have bx1_0 : w6.cell? ⟨bk_1, 0, none⟩ = some (.int .i64 (byt s 0)) := (hk1.cell 0).trans rfl
      have fz1_0 := hk1.frozen 0
      have bx1_1 : w6.cell? ⟨bk_1, 1, none⟩ = some (.int .i64 (byt s 1)) := (hk1.cell 1).trans rfl
      have fz1_1 := hk1.frozen 1
      have bx1_2 : w6.cell? ⟨bk_1, 2, none⟩ = some (.int .i64 (g16 s 2)) := (hk1.cell 2).trans rfl
      have fz1_2 := hk1.frozen 2
      have bx1_3 : w6.cell? ⟨bk_1, 3, none⟩ = some (.int .i64 (g32 s 4)) := (hk1.cell 3).trans rfl
      have fz1_3 := hk1.frozen 3
      have bx1_4 : w6.cell? ⟨bk_1, 4, none⟩ = some (.int .i64 (g16 s 8)) := (hk1.cell 4).trans rfl
      have fz1_4 := hk1.frozen 4
      have bx1_5 : w6.cell? ⟨bk_1, 5, none⟩ = some (.int .i64 (g16 s 10)) := (hk1.cell 5).trans rfl
      have fz1_5 := hk1.frozen 5
      have hc : ChgA (w.heap.size) w6 (w6.setCell ⟨w.heap.size, 4, none⟩ (.int .i64 (g16 s 8))) := (ChgA.refl _ _).set _ _
      have hko := hk0
      replace hk1 := hk1.chgA hc (by omega)
      replace hk0 : Blk (w6.setCell ⟨w.heap.size, 4, none⟩ (.int .i64 (g16 s 8))) (w.heap.size) 84 [.int .i64 (byt s 0), .int .i64 (byt s 1), .int .i64 (g16 s 2), .int .i64 (g32 s 4), .int .i64 (g16 s 8), .int .i64 0] := hk0.set_ 4 _
      have k7 : Below w.heap.size w (w6.setCell ⟨w.heap.size, 4, none⟩ (.int .i64 (g16 s 8))) := hc.below (by omega) k6
      have p7 : (w6.setCell ⟨w.heap.size, 4, none⟩ (.int .i64 (g16 s 8))).heap.size = w6.heap.size := hc.size
      have bl0 := Nat.lt_of_lt_of_le bl0 (Nat.le_of_eq p7.symm)
      have bl1 := Nat.lt_of_lt_of_le bl1 (Nat.le_of_eq p7.symm)
      generalize hW0 : (w6.setCell ⟨w.heap.size, 4, none⟩ (.int .i64 (g16 s 8))) = w7 at *
      clear hW0 hc hko
      clear bx0_0 fz0_0 bx0_1 fz0_1 bx0_2 fz0_2 bx0_3 fz0_3 bx0_4 fz0_4 bx0_5 fz0_5 bx1_0 fz1_0 bx1_1 fz1_1 bx1_2 fz1_2 bx1_3 fz1_3 bx1_4 fz1_4 bx1_5 fz1_5
      have bx0_0 : w7.cell? ⟨w.heap.size, 0, none⟩ = some (.int .i64 (byt s 0)) := (hk0.cell 0).trans rfl
      have fz0_0 := hk0.frozen 0
      have bx0_1 : w7.cell? ⟨w.heap.size, 1, none⟩ = some (.int .i64 (byt s 1)) := (hk0.cell 1).trans rfl
      have fz0_1 := hk0.frozen 1
      have bx0_2 : w7.cell? ⟨w.heap.size, 2, none⟩ = some (.int .i64 (g16 s 2)) := (hk0.cell 2).trans rfl
      have fz0_2 := hk0.frozen 2
      have bx0_3 : w7.cell? ⟨w.heap.size, 3, none⟩ = some (.int .i64 (g32 s 4)) := (hk0.cell 3).trans rfl
      have fz0_3 := hk0.frozen 3
      have bx0_4 : w7.cell? ⟨w.heap.size, 4, none⟩ = some (.int .i64 (g16 s 8)) := (hk0.cell 4).trans rfl
      have fz0_4 := hk0.frozen 4
      have bx0_5 : w7.cell? ⟨w.heap.size, 5, none⟩ = some (.int .i64 0) := (hk0.cell 5).trans rfl
      have fz0_5 := hk0.frozen 5
      have bx1_0 : w7.cell? ⟨bk_1, 0, none⟩ = some (.int .i64 (byt s 0)) := (hk1.cell 0).trans rfl
      have fz1_0 := hk1.frozen 0
      have bx1_1 : w7.cell? ⟨bk_1, 1, none⟩ = some (.int .i64 (byt s 1)) := (hk1.cell 1).trans rfl
      have fz1_1 := hk1.frozen 1
      have bx1_2 : w7.cell? ⟨bk_1, 2, none⟩ = some (.int .i64 (g16 s 2)) := (hk1.cell 2).trans rfl
      have fz1_2 := hk1.frozen 2
      have bx1_3 : w7.cell? ⟨bk_1, 3, none⟩ = some (.int .i64 (g32 s 4)) := (hk1.cell 3).trans rfl
      have fz1_3 := hk1.frozen 3
      have bx1_4 : w7.cell? ⟨bk_1, 4, none⟩ = some (.int .i64 (g16 s 8)) := (hk1.cell 4).trans rfl
      have fz1_4 := hk1.frozen 4
      have bx1_5 : w7.cell? ⟨bk_1, 5, none⟩ = some (.int .i64 (g16 s 10)) := (hk1.cell 5).trans rfl
      have fz1_5 := hk1.frozen 5
      have hc : ChgA (w.heap.size) w7 (w7.setCell ⟨w.heap.size, 5, none⟩ (.int .i64 (g16 s 10))) := (ChgA.refl _ _).set _ _
      have hko := hk0
      replace hk1 := hk1.chgA hc (by omega)
      replace hk0 : Blk (w7.setCell ⟨w.heap.size, 5, none⟩ (.int .i64 (g16 s 10))) (w.heap.size) 84 [.int .i64 (byt s 0), .int .i64 (byt s 1), .int .i64 (g16 s 2), .int .i64 (g32 s 4), .int .i64 (g16 s 8), .int .i64 (g16 s 10)] := hk0.set_ 5 _
      have k8 : Below w.heap.size w (w7.setCell ⟨w.heap.size, 5, none⟩ (.int .i64 (g16 s 10))) := hc.below (by omega) k7
      have p8 : (w7.setCell ⟨w.heap.size, 5, none⟩ (.int .i64 (g16 s 10))).heap.size = w7.heap.size := hc.size
      have bl0 := Nat.lt_of_lt_of_le bl0 (Nat.le_of_eq p8.symm)
      have bl1 := Nat.lt_of_lt_of_le bl1 (Nat.le_of_eq p8.symm)
      generalize hW0 : (w7.setCell ⟨w.heap.size, 5, none⟩ (.int .i64 (g16 s 10))) = w8 at *
      clear hW0 hc hko
      clear bx0_0 fz0_0 bx0_1 fz0_1 bx0_2 fz0_2 bx0_3 fz0_3 bx0_4 fz0_4 bx0_5 fz0_5 bx1_0 fz1_0 bx1_1 fz1_1 bx1_2 fz1_2 bx1_3 fz1_3 bx1_4 fz1_4 bx1_5 fz1_5
      have bx0_0 : w8.cell? ⟨w.heap.size, 0, none⟩ = some (.int .i64 (byt s 0)) := (hk0.cell 0).trans rfl
      have fz0_0 := hk0.frozen 0
      have bx0_1 : w8.cell? ⟨w.heap.size, 1, none⟩ = some (.int .i64 (byt s 1)) := (hk0.cell 1).trans rfl
      have fz0_1 := hk0.frozen 1
      have bx0_2 : w8.cell? ⟨w.heap.size, 2, none⟩ = some (.int .i64 (g16 s 2)) := (hk0.cell 2).trans rfl
      have fz0_2 := hk0.frozen 2
      have bx0_3 : w8.cell? ⟨w.heap.size, 3, none⟩ = some (.int .i64 (g32 s 4)) := (hk0.cell 3).trans rfl
      have fz0_3 := hk0.frozen 3
      have bx0_4 : w8.cell? ⟨w.heap.size, 4, none⟩ = some (.int .i64 (g16 s 8)) := (hk0.cell 4).trans rfl
      have fz0_4 := hk0.frozen 4
      have bx0_5 : w8.cell? ⟨w.heap.size, 5, none⟩ = some (.int .i64 (g16 s 10)) := (hk0.cell 5).trans rfl
      have fz0_5 := hk0.frozen 5
      have bx1_0 : w8.cell? ⟨bk_1, 0, none⟩ = some (.int .i64 (byt s 0)) := (hk1.cell 0).trans rfl
      have fz1_0 := hk1.frozen 0
      have bx1_1 : w8.cell? ⟨bk_1, 1, none⟩ = some (.int .i64 (byt s 1)) := (hk1.cell 1).trans rfl
      have fz1_1 := hk1.frozen 1
      have bx1_2 : w8.cell? ⟨bk_1, 2, none⟩ = some (.int .i64 (g16 s 2)) := (hk1.cell 2).trans rfl
      have fz1_2 := hk1.frozen 2
      have bx1_3 : w8.cell? ⟨bk_1, 3, none⟩ = some (.int .i64 (g32 s 4)) := (hk1.cell 3).trans rfl
      have fz1_3 := hk1.frozen 3
      have bx1_4 : w8.cell? ⟨bk_1, 4, none⟩ = some (.int .i64 (g16 s 8)) := (hk1.cell 4).trans rfl
      have fz1_4 := hk1.frozen 4
      have bx1_5 : w8.cell? ⟨bk_1, 5, none⟩ = some (.int .i64 (g16 s 10)) := (hk1.cell 5).trans rfl
      have fz1_5 := hk1.frozen 5
      refine bodyPost_ret (v := .tuple #[.agg #[.int .i64 (byt s 0), .int .i64 (byt s 1), .int .i64 (g16 s 2), .int .i64 (g32 s 4), .int .i64 (g16 s 8), .int .i64 (g16 s 10)], .bool true]) (by simp [results, Try.results61, go_sem, bx0_0, bx0_1, bx0_2, bx0_3, bx0_4, bx0_5]) rfl ?_
      exact ⟨rfl, k8⟩
  · have hg : decB s = false := by rw [decB]; simp [h16]
    rw [hg]
    simp only [decV_no hg]
    clear hg
    have h17 : ((s.size : Int) == 16) = false := by simp; omega
    go_enter Try.func61, Try.ntmps61
    go_wp2
    refine bodyPost_ret (v := .tuple #[.agg #[.int .i64 0, .int .i64 0, .int .i64 0, .int .i64 0, .int .i64 0, .int .i64 0], .bool false]) (by simp [results, Try.results61, go_sem]) rfl ?_
    exact ⟨rfl, by go_grown⟩
end Go.Proofs.Ytnnlagmgdfhaiaa
