/- Contracts of ParseEth: impl and spec. -/
import Derived.Test.YtifbfmafogmemaaPktE
import Derived.Test.YtifbfmafogmemaaPktG
import Derived.Test.YtifbfmafogmemaaSlots4
namespace Go.Proofs.Ytifbfmafogmemaa
set_option linter.unusedSimpArgs false
set_option linter.unusedVariables false
open Go.RowKit Go.ChangeShapes Go.WideShapes
def dstE (s : ByteArray) : Int := g16 s 0 * 4294967296 + g32 s 2
def srcE (s : ByteArray) : Int := g16 s 6 * 4294967296 + g32 s 8
def vlE (s : ByteArray) : Int := if g16 s 12 = 33024 then g16 s 14 else -1
def tyE (s : ByteArray) : Int := if g16 s 12 = 33024 then g16 s 16 else g16 s 12
def bdE (s : ByteArray) : ByteArray := s.extract (atN s) s.size
/-- A frame that can be read. -/
def okE (s : ByteArray) : Bool := decide (18 ≤ s.size) && ethB (dstE s) (srcE s) (vlE s) (tyE s) (bdE s)
def ethI (s : ByteArray) (v : Int) : Int := if okE s then v else 0
def ethT (s t : ByteArray) : ByteArray := if okE s then t else ByteArray.empty
theorem ethI_yes {s : ByteArray} (h : okE s = true) (v : Int) : ethI s v = v := by rw [ethI, if_pos h]
theorem ethI_no {s : ByteArray} (h : okE s = false) (v : Int) : ethI s v = 0 := by rw [ethI, if_neg (by rw [h]; decide)]
theorem ethT_yes {s : ByteArray} (h : okE s = true) (v : ByteArray) : ethT s v = v := by rw [ethT, if_pos h]
theorem ethT_no {s : ByteArray} (h : okE s = false) (v : ByteArray) : ethT s v = ByteArray.empty := by rw [ethT, if_neg (by rw [h]; decide)]
theorem hasI {s : ByteArray} {a n : Int} (h0 : 0 ≤ a) (h1 : a + n ≤ s.size) : hasN s a n = true := by
  simp [hasN]; omega
theorem g32_nn {s : ByteArray} {a : Int} (h : hasN s a 4 = true) : 0 ≤ g32 s a := by
  have h1 := byt_bd s a.toNat
  have h2 := byt_bd s (a.toNat + 1)
  have h3 := byt_bd s (a.toNat + 2)
  have h4 := byt_bd s (a.toNat + 3)
  rw [g32, if_pos h]; omega
set_option maxRecDepth 100000 in
set_option maxHeartbeats 4000000 in
theorem specParseEth_c (s : ByteArray) (w : World) (hs : s.size ≤ 1048576) :
    Calls Try.prog 123 #[.string s] w fun e w' => e = .returned (.tuple #[.agg #[.int .i64 (ethI s (dstE s)), .int .i64 (ethI s (srcE s)), .int .i64 (ethI s (vlE s)), .int .i64 (ethI s (tyE s)), .string (ethT s (bdE s))], .bool (okE s)]) ∧ Below w.heap.size w w' := by
  by_cases h18 : s.size < 18
  · have hok0 : okE s = false := by rw [okE, decide_eq_false (by omega)]; rfl
    rw [hok0]
    simp only [ethI_no hok0, ethT_no hok0]
    go_enter Try.func123, Try.ntmps123
    go_wp2
    refine bodyPost_ret (v := .tuple #[.agg #[.int .i64 0, .int .i64 0, .int .i64 0, .int .i64 0, .string ⟨#[]⟩], .bool false]) (by simp [results, Try.results123, go_sem]) rfl ?_
    exact ⟨rfl, by go_grown⟩
  · have l14 : (14 : Int) ≤ (s.size : Int) := by omega
    have l18 : (18 : Int) ≤ (s.size : Int) := by omega
    have y0 := g16_nn (s := s) (a := 0) (hasI (by omega) (by omega))
    have y1 := g32_nn (s := s) (a := 2) (hasI (by omega) (by omega))
    have y2 := g16_nn (s := s) (a := 6) (hasI (by omega) (by omega))
    have y3 := g32_nn (s := s) (a := 8) (hasI (by omega) (by omega))
    have b0 := g16_bd s 0
    have b1 := g32_bd s 2
    have b2 := g16_bd s 6
    have b3 := g32_bd s 8
    have hD : IntKind.i64.wrap (g16 s 0 * 4294967296 + g32 s 2) = g16 s 0 * 4294967296 + g32 s 2 := IntWalk.i64_in _ ⟨by omega, by omega⟩
    have hS : IntKind.i64.wrap (g16 s 6 * 4294967296 + g32 s 8) = g16 s 6 * 4294967296 + g32 s 8 := IntWalk.i64_in _ ⟨by omega, by omega⟩
    obtain ⟨D, hDD⟩ : ∃ D, g16 s 0 * 4294967296 + g32 s 2 = D := ⟨_, rfl⟩
    obtain ⟨S, hSS⟩ : ∃ S, g16 s 6 * 4294967296 + g32 s 8 = S := ⟨_, rfl⟩
    have d1 : dstE s = D := hDD
    have d2 : srcE s = S := hSS
    rw [hDD] at hD
    rw [hSS] at hS
    have ew0 : IntKind.i64.wrap (g16 s 0 * 4294967296) = g16 s 0 * 4294967296 := IntWalk.i64_in _ ⟨by omega, by omega⟩
    have ew1 : IntKind.i64.wrap (g16 s 6 * 4294967296) = g16 s 6 * 4294967296 := IntWalk.i64_in _ ⟨by omega, by omega⟩
    by_cases h12 : g16 s 12 = 33024
    · have hT := fun u => specGet16_c s 12 u hs ⟨by decide, by decide⟩
      simp only [h12] at hT
      have hv := fun u => specGet16_c s 14 u hs ⟨by decide, by decide⟩
      have hT2 := fun u => specGet16_c s 16 u hs ⟨by decide, by decide⟩
      have d3 : vlE s = g16 s 14 := by rw [vlE, if_pos h12]
      have d4 : tyE s = g16 s 16 := by rw [tyE, if_pos h12]
      have d5 : bdE s = s.extract 18 s.size := by rw [bdE, atN, if_pos h12]
      obtain ⟨V, hV⟩ : ∃ V, g16 s 14 = V := ⟨_, rfl⟩
      obtain ⟨T, hTT⟩ : ∃ T, g16 s 16 = T := ⟨_, rfl⟩
      simp only [hV] at hv d3
      simp only [hTT] at hT2 d4
      have hBs : (s.extract 18 s.size).size ≤ 1048576 := by rw [ByteArray.size_extract]; omega
      obtain ⟨B, hB⟩ : ∃ B, s.extract 18 s.size = B := ⟨_, rfl⟩
      rw [hB] at d5 hBs
      rw [d5]
      have heq : ethB D S V T B = okE s := by rw [okE, d1, d2, d3, d4, d5, decide_eq_true (by omega), Bool.true_and]
      cases hok0 : okE s
      · rw [hok0] at heq
        simp only [ethI_no hok0, ethT_no hok0, d1, d2, d3, d4]
        have hEO := fun u => specEthOk_c D S V T B u (by omega)
        simp only [heq] at hEO
        have hok := fun u => calls_bool (hEO u) rfl
        clear hEO
        go_enter Try.func123, Try.ntmps123
        go_wp2_with fail
        have k0 : Below w.heap.size w (w.alloc (.cells #[.int .i64 0, .int .i64 0, .int .i64 0, .int .i64 0, .string ⟨#[]⟩] 99)) := by go_grown
        have bl0 : w.heap.size < (w.alloc (.cells #[.int .i64 0, .int .i64 0, .int .i64 0, .int .i64 0, .string ⟨#[]⟩] 99)).heap.size := by go_size
        have hk0 : Blk (w.alloc (.cells #[.int .i64 0, .int .i64 0, .int .i64 0, .int .i64 0, .string ⟨#[]⟩] 99)) (w.heap.size) 99 [.int .i64 0, .int .i64 0, .int .i64 0, .int .i64 0, .string ⟨#[]⟩] := by simpa using Blk.new w 99 [.int .i64 0, .int .i64 0, .int .i64 0, .int .i64 0, .string ⟨#[]⟩]
        have p0 := k0.size
        generalize hW0 : (w.alloc (.cells #[.int .i64 0, .int .i64 0, .int .i64 0, .int .i64 0, .string ⟨#[]⟩] 99)) = w0 at *
        clear hW0
        have hBB : w.heap.size ≤ w0.heap.size := by omega
        refine wp_region_slotsS (w.heap.size) [(9, fun _ v => v = .string s), (10, fun _ v => v = .int .i64 (g16 s 0)), (11, fun _ v => v = .int .i64 (g16 s 0 * 4294967296)), (12, fun _ v => v = .string s), (13, fun _ v => v = .int .i64 (g32 s 2)), (14, fun _ v => v = .int .i64 D), (15, fun _ v => v = .string s), (16, fun _ v => v = .int .i64 (g16 s 6)), (17, fun _ v => v = .int .i64 (g16 s 6 * 4294967296)), (18, fun _ v => v = .string s), (19, fun _ v => v = .int .i64 (g32 s 8)), (20, fun _ v => v = .int .i64 S), (21, fun _ v => v = .string s), (22, fun _ v => v = .int .i64 33024), (23, fun _ v => v = .string s), (24, fun _ v => v = .string (s.extract 14 s.size)), (25, fun _ v => v = .agg #[.int .i64 D, .int .i64 S, .int .i64 (-1), .int .i64 33024, .string (s.extract 14 s.size)]), (4, BoxP w0.heap.size 99 5)] [⟨18, 4, fun _ => True, StoP w0.heap.size 99 [.int .i64 D, .int .i64 S, .int .i64 (-1), .int .i64 33024, .string (s.extract 14 s.size)]⟩] (fun u => Blk u (w.heap.size) 99 [.int .i64 0, .int .i64 0, .int .i64 0, .int .i64 0, .string ⟨#[]⟩]) (by kernel_rfl) hBB (by kernel_rfl) (by kernel_rfl) (by kernel_rfl) (by kernel_rfl) ?_ ?_ ?_ ?_ ?_ ?_ ?_
        · intro p hp
          simp only [List.mem_cons, List.not_mem_nil, or_false] at hp
          rcases hp with rfl | rfl | rfl | rfl | rfl | rfl | rfl | rfl | rfl | rfl | rfl | rfl | rfl | rfl | rfl | rfl | rfl | rfl
          all_goals (intro u u' v hb hv; first | exact hv | exact BoxP.keep hv hb | exact RowP.keep hv hb)
        · intro s hs u u' hb
          simp only [List.mem_cons, List.not_mem_nil, or_false] at hs
          rcases hs with rfl
          all_goals (refine ⟨fun h => ?_, fun _ h => ?_⟩ <;> first | exact h | exact StoP.keep h hb | exact StoR.keep h hb | exact Blk.ext h hb | exact StaR.keep h hb)
        · intro s hs
          simp only [List.mem_cons, List.not_mem_nil, or_false] at hs
          rcases hs with rfl
          all_goals first | trivial
        · exact hk0
        · intro u u' hb hj
          have j0 := hj
          exact (j0.ext hb)
        · intro hGk hSk hJk
          refine allStep_cons (stepS_plain hGk hSk hBB hJk (by kernel_rfl) rfl ?_) ?_
          · intro a u hb hz hj hl hp K Q hK
            have e0 : a.tmps[0]?.getD undef = .string s := gd (hl 0 (by kernel_rfl))
            go_simp
            exact hK _ _ (Below.refl _ _) (by intro d hd; cases hd; exact rfl)
          refine allStep_cons (stepS_plain hGk hSk hBB hJk (by kernel_rfl) rfl ?_) ?_
          · intro a u hb hz hj hl hp K Q hK
            have e9 : a.tmps[9]?.getD undef = .string s := gd (hl 9 (by kernel_rfl))
            go_simp
            refine (specGet16_c s 0 _ hs ⟨by decide, by decide⟩).mono ?_
            rintro e u1 ⟨rfl, hb1⟩
            exact hK _ _ hb1 (by intro d hd; cases hd; exact rfl)
          refine allStep_cons (stepS_plain hGk hSk hBB hJk (by kernel_rfl) rfl ?_) ?_
          · intro a u hb hz hj hl hp K Q hK
            have e10 : a.tmps[10]?.getD undef = .int .i64 (g16 s 0) := gd (hl 10 (by kernel_rfl))
            go_simp
            exact hK _ _ (Below.refl _ _) (by intro d hd; cases hd; exact rfl)
          refine allStep_cons (stepS_plain hGk hSk hBB hJk (by kernel_rfl) rfl ?_) ?_
          · intro a u hb hz hj hl hp K Q hK
            have e0 : a.tmps[0]?.getD undef = .string s := gd (hl 0 (by kernel_rfl))
            go_simp
            exact hK _ _ (Below.refl _ _) (by intro d hd; cases hd; exact rfl)
          refine allStep_cons (stepS_plain hGk hSk hBB hJk (by kernel_rfl) rfl ?_) ?_
          · intro a u hb hz hj hl hp K Q hK
            have e12 : a.tmps[12]?.getD undef = .string s := gd (hl 12 (by kernel_rfl))
            go_simp
            refine (specGet32_c s 2 _ hs ⟨by decide, by decide⟩).mono ?_
            rintro e u1 ⟨rfl, hb1⟩
            exact hK _ _ hb1 (by intro d hd; cases hd; exact rfl)
          refine allStep_cons (stepS_plain hGk hSk hBB hJk (by kernel_rfl) rfl ?_) ?_
          · intro a u hb hz hj hl hp K Q hK
            have e11 : a.tmps[11]?.getD undef = .int .i64 (g16 s 0 * 4294967296) := gd (hl 11 (by kernel_rfl))
            have e13 : a.tmps[13]?.getD undef = .int .i64 (g32 s 2) := gd (hl 13 (by kernel_rfl))
            go_simp
            exact hK _ _ (Below.refl _ _) (by intro d hd; cases hd; exact rfl)
          refine allStep_cons (stepS_plain hGk hSk hBB hJk (by kernel_rfl) rfl ?_) ?_
          · intro a u hb hz hj hl hp K Q hK
            have e0 : a.tmps[0]?.getD undef = .string s := gd (hl 0 (by kernel_rfl))
            go_simp
            exact hK _ _ (Below.refl _ _) (by intro d hd; cases hd; exact rfl)
          refine allStep_cons (stepS_plain hGk hSk hBB hJk (by kernel_rfl) rfl ?_) ?_
          · intro a u hb hz hj hl hp K Q hK
            have e15 : a.tmps[15]?.getD undef = .string s := gd (hl 15 (by kernel_rfl))
            go_simp
            refine (specGet16_c s 6 _ hs ⟨by decide, by decide⟩).mono ?_
            rintro e u1 ⟨rfl, hb1⟩
            exact hK _ _ hb1 (by intro d hd; cases hd; exact rfl)
          refine allStep_cons (stepS_plain hGk hSk hBB hJk (by kernel_rfl) rfl ?_) ?_
          · intro a u hb hz hj hl hp K Q hK
            have e16 : a.tmps[16]?.getD undef = .int .i64 (g16 s 6) := gd (hl 16 (by kernel_rfl))
            go_simp
            exact hK _ _ (Below.refl _ _) (by intro d hd; cases hd; exact rfl)
          refine allStep_cons (stepS_plain hGk hSk hBB hJk (by kernel_rfl) rfl ?_) ?_
          · intro a u hb hz hj hl hp K Q hK
            have e0 : a.tmps[0]?.getD undef = .string s := gd (hl 0 (by kernel_rfl))
            go_simp
            exact hK _ _ (Below.refl _ _) (by intro d hd; cases hd; exact rfl)
          refine allStep_cons (stepS_plain hGk hSk hBB hJk (by kernel_rfl) rfl ?_) ?_
          · intro a u hb hz hj hl hp K Q hK
            have e18 : a.tmps[18]?.getD undef = .string s := gd (hl 18 (by kernel_rfl))
            go_simp
            refine (specGet32_c s 8 _ hs ⟨by decide, by decide⟩).mono ?_
            rintro e u1 ⟨rfl, hb1⟩
            exact hK _ _ hb1 (by intro d hd; cases hd; exact rfl)
          refine allStep_cons (stepS_plain hGk hSk hBB hJk (by kernel_rfl) rfl ?_) ?_
          · intro a u hb hz hj hl hp K Q hK
            have e17 : a.tmps[17]?.getD undef = .int .i64 (g16 s 6 * 4294967296) := gd (hl 17 (by kernel_rfl))
            have e19 : a.tmps[19]?.getD undef = .int .i64 (g32 s 8) := gd (hl 19 (by kernel_rfl))
            go_simp
            exact hK _ _ (Below.refl _ _) (by intro d hd; cases hd; exact rfl)
          refine allStep_cons (stepS_plain hGk hSk hBB hJk (by kernel_rfl) rfl ?_) ?_
          · intro a u hb hz hj hl hp K Q hK
            have e0 : a.tmps[0]?.getD undef = .string s := gd (hl 0 (by kernel_rfl))
            go_simp
            exact hK _ _ (Below.refl _ _) (by intro d hd; cases hd; exact rfl)
          refine allStep_cons (stepS_plain hGk hSk hBB hJk (by kernel_rfl) rfl ?_) ?_
          · intro a u hb hz hj hl hp K Q hK
            have e21 : a.tmps[21]?.getD undef = .string s := gd (hl 21 (by kernel_rfl))
            go_simp
            refine (hT _).mono ?_
            rintro e u1 ⟨rfl, hb1⟩
            exact hK _ _ hb1 (by intro d hd; cases hd; exact rfl)
          refine allStep_cons (stepS_plain hGk hSk hBB hJk (by kernel_rfl) rfl ?_) ?_
          · intro a u hb hz hj hl hp K Q hK
            have e0 : a.tmps[0]?.getD undef = .string s := gd (hl 0 (by kernel_rfl))
            go_simp
            exact hK _ _ (Below.refl _ _) (by intro d hd; cases hd; exact rfl)
          refine allStep_cons (stepS_plain hGk hSk hBB hJk (by kernel_rfl) rfl ?_) ?_
          · intro a u hb hz hj hl hp K Q hK
            have e23 : a.tmps[23]?.getD undef = .string s := gd (hl 23 (by kernel_rfl))
            go_simp
            exact hK _ _ (Below.refl _ _) (by intro d hd; cases hd; exact rfl)
          refine allStep_cons (stepS_plain hGk hSk hBB hJk (by kernel_rfl) rfl ?_) ?_
          · intro a u hb hz hj hl hp K Q hK
            have e14 : a.tmps[14]?.getD undef = .int .i64 D := gd (hl 14 (by kernel_rfl))
            have e20 : a.tmps[20]?.getD undef = .int .i64 S := gd (hl 20 (by kernel_rfl))
            have e22 : a.tmps[22]?.getD undef = .int .i64 33024 := gd (hl 22 (by kernel_rfl))
            have e24 : a.tmps[24]?.getD undef = .string (s.extract 14 s.size) := gd (hl 24 (by kernel_rfl))
            go_simp
            exact hK _ _ (Below.refl _ _) (by intro d hd; cases hd; exact rfl)
          refine allStep_cons (stepS_plain hGk hSk hBB hJk (by kernel_rfl) rfl ?_) ?_
          · intro a u hb hz hj hl hp K Q hK
            go_simp
            exact hK _ _ (by go_grown) (by intro d hd; cases hd; exact BoxP.new _ _ [.int .i64 0, .int .i64 0, .int .i64 0, .int .i64 0, .string ⟨#[]⟩] (by omega) rfl)
          refine allStep_cons (stepS_store (Chg w0.heap.size 99) (fun _ _ hc hb => hc.below' (by omega) hb) (fun _ _ hc => hc.size) (hold_rel ?_) ?_ ?_ rfl rfl ?_) ?_
          · intro p hp
            simp only [List.mem_cons, List.not_mem_nil, or_false] at hp
            rcases hp with rfl | rfl | rfl | rfl | rfl | rfl | rfl | rfl | rfl | rfl | rfl | rfl | rfl | rfl | rfl | rfl | rfl | rfl
            all_goals (intro u u' v hb hv; first | exact hv | exact BoxP.chg hv hb | exact RowP.chg hv hb (by decide))
          · intro s hs hne u u' hb
            simp only [List.mem_cons, List.not_mem_nil, or_false] at hs
            rcases hs with rfl
            all_goals first | exact absurd (by rfl) hne | (refine ⟨fun h => ?_, fun _ h => ?_⟩ <;> first | exact h | exact StoP.chg h hb (by decide) | exact StoR.chg h hb (by decide) (by decide) | exact Blk.chgL h hb (by omega) | exact StaR.chgL h hb (by omega) (by decide))
          · intro u u' hb hj
            have j0 := hj
            exact (j0.chgL hb (by omega))
          · intro a u hb hz hj hl hp K Q hK
            obtain ⟨b, exb, hB, zs, hzl, hbk⟩ : BoxP w0.heap.size 99 5 u (a.tmps.getD 4 undef) := hl 4 (by kernel_rfl)
            have e4 := gd exb
            have e25 : a.tmps[25]?.getD undef = .agg #[.int .i64 D, .int .i64 S, .int .i64 (-1), .int .i64 33024, .string (s.extract 14 s.size)] := gd (hl 25 (by kernel_rfl))
            obtain ⟨z0, z1, z2, z3, z4, rfl⟩ : ∃ z0 z1 z2 z3 z4, zs = [z0, z1, z2, z3, z4] := (by match zs, hzl with | [z0, z1, z2, z3, z4], _ => exact ⟨_, _, _, _, _, rfl⟩)
            have hlt := hbk.lt
            have g0 : u.cell? ⟨b, 0, none⟩ = some z0 := (hbk.cell 0).trans rfl
            have f0 := hbk.frozen 0
            have g1 : u.cell? ⟨b, 1, none⟩ = some z1 := (hbk.cell 1).trans rfl
            have f1 := hbk.frozen 1
            have g2 : u.cell? ⟨b, 2, none⟩ = some z2 := (hbk.cell 2).trans rfl
            have f2 := hbk.frozen 2
            have g3 : u.cell? ⟨b, 3, none⟩ = some z3 := (hbk.cell 3).trans rfl
            have f3 := hbk.frozen 3
            have g4 : u.cell? ⟨b, 4, none⟩ = some z4 := (hbk.cell 4).trans rfl
            have f4 := hbk.frozen 4
            go_simp
            refine hK undef _ ((((((Chg.refl _ _ _).set hbk hB 0 _).set (hbk.set_ 0 _) hB 1 _).set ((hbk.set_ 0 _).set_ 1 _) hB 2 _).set (((hbk.set_ 0 _).set_ 1 _).set_ 2 _) hB 3 _).set ((((hbk.set_ 0 _).set_ 1 _).set_ 2 _).set_ 3 _) hB 4 _) (fun s hs he => ?_)
            simp only [List.mem_cons, List.not_mem_nil, or_false] at hs
            rcases hs with rfl
            · exact ⟨b, exb, hB, (((((hbk.set_ 0 _).set_ 1 _).set_ 2 _).set_ 3 _).set_ 4 _)⟩
          exact allStep_nil
        intro xT w1 hb hz hj hL hSt
        clear hk0
        have hk0 : (fun u => Blk u (w.heap.size) 99 [.int .i64 0, .int .i64 0, .int .i64 0, .int .i64 0, .string ⟨#[]⟩]) w1 := hj
        dsimp only at hk0
        obtain ⟨bk_1, fx4, lo1, hk1⟩ : StoP w0.heap.size 99 [.int .i64 D, .int .i64 S, .int .i64 (-1), .int .i64 33024, .string (s.extract 14 s.size)] w1 (xT 4) := hSt _ (List.mem_of_getElem? (i := 0) rfl)
        simp only [List.map, putAll, fx4]
        have bl1 := hk1.lt
        have k1 : Below w.heap.size w w1 := k0.trans hb
        have p1 : w0.heap.size ≤ w1.heap.size := hb.size
        have bl0 := Nat.lt_of_lt_of_le bl0 hb.size
        clear hL hSt hb hz fx4
        have bx1_3 := hk1.at_ 3 _ rfl
        go_wp2_with fail
        refine (hv _).mono ?_
        rintro e w2 ⟨rfl, hb⟩
        have k2 : Below w.heap.size w w2 := ext_step k1 (by omega) hb
        have p2 := hb.size
        replace hk0 := hk0.ext hb
        replace hk1 := hk1.ext hb
        clear bx1_3
        have bl0 := Nat.lt_of_lt_of_le bl0 hb.size
        have bl1 := Nat.lt_of_lt_of_le bl1 hb.size
        clear hb
        have bx1_2 := hk1.at_ 2 _ rfl
        have fz1_2 := hk1.frozen 2
        go_wp2_with fail
        have hc : ChgA (bk_1) w2 (w2.setCell ⟨bk_1, 2, none⟩ (.int .i64 V)) := (ChgA.refl _ _).set _ _
        have hko := hk1
        replace hk0 := hk0.chgA hc (by omega)
        replace hk1 : Blk (w2.setCell ⟨bk_1, 2, none⟩ (.int .i64 V)) (bk_1) 99 [.int .i64 D, .int .i64 S, .int .i64 V, .int .i64 33024, .string (s.extract 14 s.size)] := hk1.set_ 2 _
        have k3 : Below w.heap.size w (w2.setCell ⟨bk_1, 2, none⟩ (.int .i64 V)) := hc.below (by omega) k2
        have p3 : (w2.setCell ⟨bk_1, 2, none⟩ (.int .i64 V)).heap.size = w2.heap.size := hc.size
        have bl0 := Nat.lt_of_lt_of_le bl0 (Nat.le_of_eq p3.symm)
        have bl1 := Nat.lt_of_lt_of_le bl1 (Nat.le_of_eq p3.symm)
        generalize hW0 : (w2.setCell ⟨bk_1, 2, none⟩ (.int .i64 V)) = w3 at *
        clear hW0 hc hko
        clear bx1_2 fz1_2
        refine (hT2 _).mono ?_
        rintro e w4 ⟨rfl, hb⟩
        have k4 : Below w.heap.size w w4 := ext_step k3 (by omega) hb
        have p4 := hb.size
        replace hk0 := hk0.ext hb
        replace hk1 := hk1.ext hb
        have bl0 := Nat.lt_of_lt_of_le bl0 hb.size
        have bl1 := Nat.lt_of_lt_of_le bl1 hb.size
        clear hb
        have bx1_0 := hk1.at_ 0 _ rfl
        have fz1_0 := hk1.frozen 0
        have bx1_1 := hk1.at_ 1 _ rfl
        have fz1_1 := hk1.frozen 1
        have bx1_2 := hk1.at_ 2 _ rfl
        have fz1_2 := hk1.frozen 2
        have bx1_3 := hk1.at_ 3 _ rfl
        have fz1_3 := hk1.frozen 3
        have bx1_4 := hk1.at_ 4 _ rfl
        have fz1_4 := hk1.frozen 4
        go_wp2_with fail
        have hc : ChgA (bk_1) w4 (w4.setCell ⟨bk_1, 3, none⟩ (.int .i64 T)) := (ChgA.refl _ _).set _ _
        have hko := hk1
        replace hk0 := hk0.chgA hc (by omega)
        replace hk1 : Blk (w4.setCell ⟨bk_1, 3, none⟩ (.int .i64 T)) (bk_1) 99 [.int .i64 D, .int .i64 S, .int .i64 V, .int .i64 T, .string (s.extract 14 s.size)] := hk1.set_ 3 _
        have k5 : Below w.heap.size w (w4.setCell ⟨bk_1, 3, none⟩ (.int .i64 T)) := hc.below (by omega) k4
        have p5 : (w4.setCell ⟨bk_1, 3, none⟩ (.int .i64 T)).heap.size = w4.heap.size := hc.size
        have bl0 := Nat.lt_of_lt_of_le bl0 (Nat.le_of_eq p5.symm)
        have bl1 := Nat.lt_of_lt_of_le bl1 (Nat.le_of_eq p5.symm)
        generalize hW0 : (w4.setCell ⟨bk_1, 3, none⟩ (.int .i64 T)) = w5 at *
        clear hW0 hc hko
        clear bx1_0 fz1_0 bx1_1 fz1_1 bx1_2 fz1_2 bx1_3 fz1_3 bx1_4 fz1_4
        have hc : ChgA (bk_1) w5 (w5.setCell ⟨bk_1, 4, none⟩ (.string B)) := (ChgA.refl _ _).set _ _
        have hko := hk1
        replace hk0 := hk0.chgA hc (by omega)
        replace hk1 : Blk (w5.setCell ⟨bk_1, 4, none⟩ (.string B)) (bk_1) 99 [.int .i64 D, .int .i64 S, .int .i64 V, .int .i64 T, .string B] := hk1.set_ 4 _
        have k6 : Below w.heap.size w (w5.setCell ⟨bk_1, 4, none⟩ (.string B)) := hc.below (by omega) k5
        have p6 : (w5.setCell ⟨bk_1, 4, none⟩ (.string B)).heap.size = w5.heap.size := hc.size
        have bl0 := Nat.lt_of_lt_of_le bl0 (Nat.le_of_eq p6.symm)
        have bl1 := Nat.lt_of_lt_of_le bl1 (Nat.le_of_eq p6.symm)
        generalize hW0 : (w5.setCell ⟨bk_1, 4, none⟩ (.string B)) = w6 at *
        clear hW0 hc hko
        refine (hok _).mono ?_
        rintro e w7 ⟨rfl, hb⟩
        have k7 : Below w.heap.size w w7 := ext_step k6 (by omega) hb
        have p7 := hb.size
        replace hk0 := hk0.ext hb
        replace hk1 := hk1.ext hb
        have bl0 := Nat.lt_of_lt_of_le bl0 hb.size
        have bl1 := Nat.lt_of_lt_of_le bl1 hb.size
        clear hb
        clear  hk1
        have bx0_0 := hk0.at_ 0 _ rfl
        have fz0_0 := hk0.frozen 0
        have bx0_1 := hk0.at_ 1 _ rfl
        have fz0_1 := hk0.frozen 1
        have bx0_2 := hk0.at_ 2 _ rfl
        have fz0_2 := hk0.frozen 2
        have bx0_3 := hk0.at_ 3 _ rfl
        have fz0_3 := hk0.frozen 3
        have bx0_4 := hk0.at_ 4 _ rfl
        have fz0_4 := hk0.frozen 4
        go_wp2_with fail
        have hcc := ChgA.refl (w.heap.size) w7
        obtain ⟨w8_0, hW0⟩ : ∃ W, W = w7.setCell ⟨w.heap.size, 0, none⟩ (.int .i64 0) := ⟨_, rfl⟩
        replace hcc : ChgA (w.heap.size) w7 w8_0 := by rw [hW0]; exact hcc.set _ _
        replace hk0 : Blk w8_0 (w.heap.size) 99 [.int .i64 0, .int .i64 0, .int .i64 0, .int .i64 0, .string ⟨#[]⟩] := by rw [hW0]; exact hk0.set_ 0 _
        rw [← hW0]
        clear hW0
        obtain ⟨w8_1, hW0⟩ : ∃ W, W = w8_0.setCell ⟨w.heap.size, 1, none⟩ (.int .i64 0) := ⟨_, rfl⟩
        replace hcc : ChgA (w.heap.size) w7 w8_1 := by rw [hW0]; exact hcc.set _ _
        replace hk0 : Blk w8_1 (w.heap.size) 99 [.int .i64 0, .int .i64 0, .int .i64 0, .int .i64 0, .string ⟨#[]⟩] := by rw [hW0]; exact hk0.set_ 1 _
        rw [← hW0]
        clear hW0
        obtain ⟨w8_2, hW0⟩ : ∃ W, W = w8_1.setCell ⟨w.heap.size, 2, none⟩ (.int .i64 0) := ⟨_, rfl⟩
        replace hcc : ChgA (w.heap.size) w7 w8_2 := by rw [hW0]; exact hcc.set _ _
        replace hk0 : Blk w8_2 (w.heap.size) 99 [.int .i64 0, .int .i64 0, .int .i64 0, .int .i64 0, .string ⟨#[]⟩] := by rw [hW0]; exact hk0.set_ 2 _
        rw [← hW0]
        clear hW0
        obtain ⟨w8_3, hW0⟩ : ∃ W, W = w8_2.setCell ⟨w.heap.size, 3, none⟩ (.int .i64 0) := ⟨_, rfl⟩
        replace hcc : ChgA (w.heap.size) w7 w8_3 := by rw [hW0]; exact hcc.set _ _
        replace hk0 : Blk w8_3 (w.heap.size) 99 [.int .i64 0, .int .i64 0, .int .i64 0, .int .i64 0, .string ⟨#[]⟩] := by rw [hW0]; exact hk0.set_ 3 _
        rw [← hW0]
        clear hW0
        obtain ⟨w8, hW0⟩ : ∃ W, W = w8_3.setCell ⟨w.heap.size, 4, none⟩ (.string ⟨#[]⟩) := ⟨_, rfl⟩
        replace hcc : ChgA (w.heap.size) w7 w8 := by rw [hW0]; exact hcc.set _ _
        replace hk0 : Blk w8 (w.heap.size) 99 [.int .i64 0, .int .i64 0, .int .i64 0, .int .i64 0, .string ⟨#[]⟩] := by rw [hW0]; exact hk0.set_ 4 _
        rw [← hW0]
        clear hW0
        have hc := hcc
        have k8 := hc.below (by omega) k7
        have p8 := hc.size
        replace bl0 := Nat.lt_of_lt_of_le bl0 (Nat.le_of_eq p8.symm)
        replace bl1 := Nat.lt_of_lt_of_le bl1 (Nat.le_of_eq p8.symm)
        clear hc hcc
        clear bx0_0 fz0_0 bx0_1 fz0_1 bx0_2 fz0_2 bx0_3 fz0_3 bx0_4 fz0_4
        have bx0_0 := hk0.at_ 0 _ rfl
        have bx0_1 := hk0.at_ 1 _ rfl
        have bx0_2 := hk0.at_ 2 _ rfl
        have bx0_3 := hk0.at_ 3 _ rfl
        have bx0_4 := hk0.at_ 4 _ rfl
        refine bodyPost_ret (v := .tuple #[.agg #[.int .i64 0, .int .i64 0, .int .i64 0, .int .i64 0, .string ⟨#[]⟩], .bool false]) (by simp [results, Try.results123, go_sem, bx0_0, bx0_1, bx0_2, bx0_3, bx0_4]) rfl ?_
        exact ⟨rfl, k8⟩
      · rw [hok0] at heq
        simp only [ethI_yes hok0, ethT_yes hok0, d1, d2, d3, d4]
        have hEO := fun u => specEthOk_c D S V T B u (by omega)
        simp only [heq] at hEO
        have hok := fun u => calls_bool (hEO u) rfl
        clear hEO
        go_enter Try.func123, Try.ntmps123
        go_wp2_with fail
        have k0 : Below w.heap.size w (w.alloc (.cells #[.int .i64 0, .int .i64 0, .int .i64 0, .int .i64 0, .string ⟨#[]⟩] 99)) := by go_grown
        have bl0 : w.heap.size < (w.alloc (.cells #[.int .i64 0, .int .i64 0, .int .i64 0, .int .i64 0, .string ⟨#[]⟩] 99)).heap.size := by go_size
        have hk0 : Blk (w.alloc (.cells #[.int .i64 0, .int .i64 0, .int .i64 0, .int .i64 0, .string ⟨#[]⟩] 99)) (w.heap.size) 99 [.int .i64 0, .int .i64 0, .int .i64 0, .int .i64 0, .string ⟨#[]⟩] := by simpa using Blk.new w 99 [.int .i64 0, .int .i64 0, .int .i64 0, .int .i64 0, .string ⟨#[]⟩]
        have p0 := k0.size
        generalize hW0 : (w.alloc (.cells #[.int .i64 0, .int .i64 0, .int .i64 0, .int .i64 0, .string ⟨#[]⟩] 99)) = w0 at *
        clear hW0
        have hBB : w.heap.size ≤ w0.heap.size := by omega
        refine wp_region_slotsS (w.heap.size) [(9, fun _ v => v = .string s), (10, fun _ v => v = .int .i64 (g16 s 0)), (11, fun _ v => v = .int .i64 (g16 s 0 * 4294967296)), (12, fun _ v => v = .string s), (13, fun _ v => v = .int .i64 (g32 s 2)), (14, fun _ v => v = .int .i64 D), (15, fun _ v => v = .string s), (16, fun _ v => v = .int .i64 (g16 s 6)), (17, fun _ v => v = .int .i64 (g16 s 6 * 4294967296)), (18, fun _ v => v = .string s), (19, fun _ v => v = .int .i64 (g32 s 8)), (20, fun _ v => v = .int .i64 S), (21, fun _ v => v = .string s), (22, fun _ v => v = .int .i64 33024), (23, fun _ v => v = .string s), (24, fun _ v => v = .string (s.extract 14 s.size)), (25, fun _ v => v = .agg #[.int .i64 D, .int .i64 S, .int .i64 (-1), .int .i64 33024, .string (s.extract 14 s.size)]), (4, BoxP w0.heap.size 99 5)] [⟨18, 4, fun _ => True, StoP w0.heap.size 99 [.int .i64 D, .int .i64 S, .int .i64 (-1), .int .i64 33024, .string (s.extract 14 s.size)]⟩] (fun u => Blk u (w.heap.size) 99 [.int .i64 0, .int .i64 0, .int .i64 0, .int .i64 0, .string ⟨#[]⟩]) (by kernel_rfl) hBB (by kernel_rfl) (by kernel_rfl) (by kernel_rfl) (by kernel_rfl) ?_ ?_ ?_ ?_ ?_ ?_ ?_
        · intro p hp
          simp only [List.mem_cons, List.not_mem_nil, or_false] at hp
          rcases hp with rfl | rfl | rfl | rfl | rfl | rfl | rfl | rfl | rfl | rfl | rfl | rfl | rfl | rfl | rfl | rfl | rfl | rfl
          all_goals (intro u u' v hb hv; first | exact hv | exact BoxP.keep hv hb | exact RowP.keep hv hb)
        · intro s hs u u' hb
          simp only [List.mem_cons, List.not_mem_nil, or_false] at hs
          rcases hs with rfl
          all_goals (refine ⟨fun h => ?_, fun _ h => ?_⟩ <;> first | exact h | exact StoP.keep h hb | exact StoR.keep h hb | exact Blk.ext h hb | exact StaR.keep h hb)
        · intro s hs
          simp only [List.mem_cons, List.not_mem_nil, or_false] at hs
          rcases hs with rfl
          all_goals first | trivial
        · exact hk0
        · intro u u' hb hj
          have j0 := hj
          exact (j0.ext hb)
        · intro hGk hSk hJk
          refine allStep_cons (stepS_plain hGk hSk hBB hJk (by kernel_rfl) rfl ?_) ?_
          · intro a u hb hz hj hl hp K Q hK
            have e0 : a.tmps[0]?.getD undef = .string s := gd (hl 0 (by kernel_rfl))
            go_simp
            exact hK _ _ (Below.refl _ _) (by intro d hd; cases hd; exact rfl)
          refine allStep_cons (stepS_plain hGk hSk hBB hJk (by kernel_rfl) rfl ?_) ?_
          · intro a u hb hz hj hl hp K Q hK
            have e9 : a.tmps[9]?.getD undef = .string s := gd (hl 9 (by kernel_rfl))
            go_simp
            refine (specGet16_c s 0 _ hs ⟨by decide, by decide⟩).mono ?_
            rintro e u1 ⟨rfl, hb1⟩
            exact hK _ _ hb1 (by intro d hd; cases hd; exact rfl)
          refine allStep_cons (stepS_plain hGk hSk hBB hJk (by kernel_rfl) rfl ?_) ?_
          · intro a u hb hz hj hl hp K Q hK
            have e10 : a.tmps[10]?.getD undef = .int .i64 (g16 s 0) := gd (hl 10 (by kernel_rfl))
            go_simp
            exact hK _ _ (Below.refl _ _) (by intro d hd; cases hd; exact rfl)
          refine allStep_cons (stepS_plain hGk hSk hBB hJk (by kernel_rfl) rfl ?_) ?_
          · intro a u hb hz hj hl hp K Q hK
            have e0 : a.tmps[0]?.getD undef = .string s := gd (hl 0 (by kernel_rfl))
            go_simp
            exact hK _ _ (Below.refl _ _) (by intro d hd; cases hd; exact rfl)
          refine allStep_cons (stepS_plain hGk hSk hBB hJk (by kernel_rfl) rfl ?_) ?_
          · intro a u hb hz hj hl hp K Q hK
            have e12 : a.tmps[12]?.getD undef = .string s := gd (hl 12 (by kernel_rfl))
            go_simp
            refine (specGet32_c s 2 _ hs ⟨by decide, by decide⟩).mono ?_
            rintro e u1 ⟨rfl, hb1⟩
            exact hK _ _ hb1 (by intro d hd; cases hd; exact rfl)
          refine allStep_cons (stepS_plain hGk hSk hBB hJk (by kernel_rfl) rfl ?_) ?_
          · intro a u hb hz hj hl hp K Q hK
            have e11 : a.tmps[11]?.getD undef = .int .i64 (g16 s 0 * 4294967296) := gd (hl 11 (by kernel_rfl))
            have e13 : a.tmps[13]?.getD undef = .int .i64 (g32 s 2) := gd (hl 13 (by kernel_rfl))
            go_simp
            exact hK _ _ (Below.refl _ _) (by intro d hd; cases hd; exact rfl)
          refine allStep_cons (stepS_plain hGk hSk hBB hJk (by kernel_rfl) rfl ?_) ?_
          · intro a u hb hz hj hl hp K Q hK
            have e0 : a.tmps[0]?.getD undef = .string s := gd (hl 0 (by kernel_rfl))
            go_simp
            exact hK _ _ (Below.refl _ _) (by intro d hd; cases hd; exact rfl)
          refine allStep_cons (stepS_plain hGk hSk hBB hJk (by kernel_rfl) rfl ?_) ?_
          · intro a u hb hz hj hl hp K Q hK
            have e15 : a.tmps[15]?.getD undef = .string s := gd (hl 15 (by kernel_rfl))
            go_simp
            refine (specGet16_c s 6 _ hs ⟨by decide, by decide⟩).mono ?_
            rintro e u1 ⟨rfl, hb1⟩
            exact hK _ _ hb1 (by intro d hd; cases hd; exact rfl)
          refine allStep_cons (stepS_plain hGk hSk hBB hJk (by kernel_rfl) rfl ?_) ?_
          · intro a u hb hz hj hl hp K Q hK
            have e16 : a.tmps[16]?.getD undef = .int .i64 (g16 s 6) := gd (hl 16 (by kernel_rfl))
            go_simp
            exact hK _ _ (Below.refl _ _) (by intro d hd; cases hd; exact rfl)
          refine allStep_cons (stepS_plain hGk hSk hBB hJk (by kernel_rfl) rfl ?_) ?_
          · intro a u hb hz hj hl hp K Q hK
            have e0 : a.tmps[0]?.getD undef = .string s := gd (hl 0 (by kernel_rfl))
            go_simp
            exact hK _ _ (Below.refl _ _) (by intro d hd; cases hd; exact rfl)
          refine allStep_cons (stepS_plain hGk hSk hBB hJk (by kernel_rfl) rfl ?_) ?_
          · intro a u hb hz hj hl hp K Q hK
            have e18 : a.tmps[18]?.getD undef = .string s := gd (hl 18 (by kernel_rfl))
            go_simp
            refine (specGet32_c s 8 _ hs ⟨by decide, by decide⟩).mono ?_
            rintro e u1 ⟨rfl, hb1⟩
            exact hK _ _ hb1 (by intro d hd; cases hd; exact rfl)
          refine allStep_cons (stepS_plain hGk hSk hBB hJk (by kernel_rfl) rfl ?_) ?_
          · intro a u hb hz hj hl hp K Q hK
            have e17 : a.tmps[17]?.getD undef = .int .i64 (g16 s 6 * 4294967296) := gd (hl 17 (by kernel_rfl))
            have e19 : a.tmps[19]?.getD undef = .int .i64 (g32 s 8) := gd (hl 19 (by kernel_rfl))
            go_simp
            exact hK _ _ (Below.refl _ _) (by intro d hd; cases hd; exact rfl)
          refine allStep_cons (stepS_plain hGk hSk hBB hJk (by kernel_rfl) rfl ?_) ?_
          · intro a u hb hz hj hl hp K Q hK
            have e0 : a.tmps[0]?.getD undef = .string s := gd (hl 0 (by kernel_rfl))
            go_simp
            exact hK _ _ (Below.refl _ _) (by intro d hd; cases hd; exact rfl)
          refine allStep_cons (stepS_plain hGk hSk hBB hJk (by kernel_rfl) rfl ?_) ?_
          · intro a u hb hz hj hl hp K Q hK
            have e21 : a.tmps[21]?.getD undef = .string s := gd (hl 21 (by kernel_rfl))
            go_simp
            refine (hT _).mono ?_
            rintro e u1 ⟨rfl, hb1⟩
            exact hK _ _ hb1 (by intro d hd; cases hd; exact rfl)
          refine allStep_cons (stepS_plain hGk hSk hBB hJk (by kernel_rfl) rfl ?_) ?_
          · intro a u hb hz hj hl hp K Q hK
            have e0 : a.tmps[0]?.getD undef = .string s := gd (hl 0 (by kernel_rfl))
            go_simp
            exact hK _ _ (Below.refl _ _) (by intro d hd; cases hd; exact rfl)
          refine allStep_cons (stepS_plain hGk hSk hBB hJk (by kernel_rfl) rfl ?_) ?_
          · intro a u hb hz hj hl hp K Q hK
            have e23 : a.tmps[23]?.getD undef = .string s := gd (hl 23 (by kernel_rfl))
            go_simp
            exact hK _ _ (Below.refl _ _) (by intro d hd; cases hd; exact rfl)
          refine allStep_cons (stepS_plain hGk hSk hBB hJk (by kernel_rfl) rfl ?_) ?_
          · intro a u hb hz hj hl hp K Q hK
            have e14 : a.tmps[14]?.getD undef = .int .i64 D := gd (hl 14 (by kernel_rfl))
            have e20 : a.tmps[20]?.getD undef = .int .i64 S := gd (hl 20 (by kernel_rfl))
            have e22 : a.tmps[22]?.getD undef = .int .i64 33024 := gd (hl 22 (by kernel_rfl))
            have e24 : a.tmps[24]?.getD undef = .string (s.extract 14 s.size) := gd (hl 24 (by kernel_rfl))
            go_simp
            exact hK _ _ (Below.refl _ _) (by intro d hd; cases hd; exact rfl)
          refine allStep_cons (stepS_plain hGk hSk hBB hJk (by kernel_rfl) rfl ?_) ?_
          · intro a u hb hz hj hl hp K Q hK
            go_simp
            exact hK _ _ (by go_grown) (by intro d hd; cases hd; exact BoxP.new _ _ [.int .i64 0, .int .i64 0, .int .i64 0, .int .i64 0, .string ⟨#[]⟩] (by omega) rfl)
          refine allStep_cons (stepS_store (Chg w0.heap.size 99) (fun _ _ hc hb => hc.below' (by omega) hb) (fun _ _ hc => hc.size) (hold_rel ?_) ?_ ?_ rfl rfl ?_) ?_
          · intro p hp
            simp only [List.mem_cons, List.not_mem_nil, or_false] at hp
            rcases hp with rfl | rfl | rfl | rfl | rfl | rfl | rfl | rfl | rfl | rfl | rfl | rfl | rfl | rfl | rfl | rfl | rfl | rfl
            all_goals (intro u u' v hb hv; first | exact hv | exact BoxP.chg hv hb | exact RowP.chg hv hb (by decide))
          · intro s hs hne u u' hb
            simp only [List.mem_cons, List.not_mem_nil, or_false] at hs
            rcases hs with rfl
            all_goals first | exact absurd (by rfl) hne | (refine ⟨fun h => ?_, fun _ h => ?_⟩ <;> first | exact h | exact StoP.chg h hb (by decide) | exact StoR.chg h hb (by decide) (by decide) | exact Blk.chgL h hb (by omega) | exact StaR.chgL h hb (by omega) (by decide))
          · intro u u' hb hj
            have j0 := hj
            exact (j0.chgL hb (by omega))
          · intro a u hb hz hj hl hp K Q hK
            obtain ⟨b, exb, hB, zs, hzl, hbk⟩ : BoxP w0.heap.size 99 5 u (a.tmps.getD 4 undef) := hl 4 (by kernel_rfl)
            have e4 := gd exb
            have e25 : a.tmps[25]?.getD undef = .agg #[.int .i64 D, .int .i64 S, .int .i64 (-1), .int .i64 33024, .string (s.extract 14 s.size)] := gd (hl 25 (by kernel_rfl))
            obtain ⟨z0, z1, z2, z3, z4, rfl⟩ : ∃ z0 z1 z2 z3 z4, zs = [z0, z1, z2, z3, z4] := (by match zs, hzl with | [z0, z1, z2, z3, z4], _ => exact ⟨_, _, _, _, _, rfl⟩)
            have hlt := hbk.lt
            have g0 : u.cell? ⟨b, 0, none⟩ = some z0 := (hbk.cell 0).trans rfl
            have f0 := hbk.frozen 0
            have g1 : u.cell? ⟨b, 1, none⟩ = some z1 := (hbk.cell 1).trans rfl
            have f1 := hbk.frozen 1
            have g2 : u.cell? ⟨b, 2, none⟩ = some z2 := (hbk.cell 2).trans rfl
            have f2 := hbk.frozen 2
            have g3 : u.cell? ⟨b, 3, none⟩ = some z3 := (hbk.cell 3).trans rfl
            have f3 := hbk.frozen 3
            have g4 : u.cell? ⟨b, 4, none⟩ = some z4 := (hbk.cell 4).trans rfl
            have f4 := hbk.frozen 4
            go_simp
            refine hK undef _ ((((((Chg.refl _ _ _).set hbk hB 0 _).set (hbk.set_ 0 _) hB 1 _).set ((hbk.set_ 0 _).set_ 1 _) hB 2 _).set (((hbk.set_ 0 _).set_ 1 _).set_ 2 _) hB 3 _).set ((((hbk.set_ 0 _).set_ 1 _).set_ 2 _).set_ 3 _) hB 4 _) (fun s hs he => ?_)
            simp only [List.mem_cons, List.not_mem_nil, or_false] at hs
            rcases hs with rfl
            · exact ⟨b, exb, hB, (((((hbk.set_ 0 _).set_ 1 _).set_ 2 _).set_ 3 _).set_ 4 _)⟩
          exact allStep_nil
        intro xT w1 hb hz hj hL hSt
        clear hk0
        have hk0 : (fun u => Blk u (w.heap.size) 99 [.int .i64 0, .int .i64 0, .int .i64 0, .int .i64 0, .string ⟨#[]⟩]) w1 := hj
        dsimp only at hk0
        obtain ⟨bk_1, fx4, lo1, hk1⟩ : StoP w0.heap.size 99 [.int .i64 D, .int .i64 S, .int .i64 (-1), .int .i64 33024, .string (s.extract 14 s.size)] w1 (xT 4) := hSt _ (List.mem_of_getElem? (i := 0) rfl)
        simp only [List.map, putAll, fx4]
        have bl1 := hk1.lt
        have k1 : Below w.heap.size w w1 := k0.trans hb
        have p1 : w0.heap.size ≤ w1.heap.size := hb.size
        have bl0 := Nat.lt_of_lt_of_le bl0 hb.size
        clear hL hSt hb hz fx4
        have bx1_3 := hk1.at_ 3 _ rfl
        go_wp2_with fail
        refine (hv _).mono ?_
        rintro e w2 ⟨rfl, hb⟩
        have k2 : Below w.heap.size w w2 := ext_step k1 (by omega) hb
        have p2 := hb.size
        replace hk0 := hk0.ext hb
        replace hk1 := hk1.ext hb
        clear bx1_3
        have bl0 := Nat.lt_of_lt_of_le bl0 hb.size
        have bl1 := Nat.lt_of_lt_of_le bl1 hb.size
        clear hb
        have bx1_2 := hk1.at_ 2 _ rfl
        have fz1_2 := hk1.frozen 2
        go_wp2_with fail
        have hc : ChgA (bk_1) w2 (w2.setCell ⟨bk_1, 2, none⟩ (.int .i64 V)) := (ChgA.refl _ _).set _ _
        have hko := hk1
        replace hk0 := hk0.chgA hc (by omega)
        replace hk1 : Blk (w2.setCell ⟨bk_1, 2, none⟩ (.int .i64 V)) (bk_1) 99 [.int .i64 D, .int .i64 S, .int .i64 V, .int .i64 33024, .string (s.extract 14 s.size)] := hk1.set_ 2 _
        have k3 : Below w.heap.size w (w2.setCell ⟨bk_1, 2, none⟩ (.int .i64 V)) := hc.below (by omega) k2
        have p3 : (w2.setCell ⟨bk_1, 2, none⟩ (.int .i64 V)).heap.size = w2.heap.size := hc.size
        have bl0 := Nat.lt_of_lt_of_le bl0 (Nat.le_of_eq p3.symm)
        have bl1 := Nat.lt_of_lt_of_le bl1 (Nat.le_of_eq p3.symm)
        generalize hW0 : (w2.setCell ⟨bk_1, 2, none⟩ (.int .i64 V)) = w3 at *
        clear hW0 hc hko
        clear bx1_2 fz1_2
        refine (hT2 _).mono ?_
        rintro e w4 ⟨rfl, hb⟩
        have k4 : Below w.heap.size w w4 := ext_step k3 (by omega) hb
        have p4 := hb.size
        replace hk0 := hk0.ext hb
        replace hk1 := hk1.ext hb
        have bl0 := Nat.lt_of_lt_of_le bl0 hb.size
        have bl1 := Nat.lt_of_lt_of_le bl1 hb.size
        clear hb
        have bx1_0 := hk1.at_ 0 _ rfl
        have fz1_0 := hk1.frozen 0
        have bx1_1 := hk1.at_ 1 _ rfl
        have fz1_1 := hk1.frozen 1
        have bx1_2 := hk1.at_ 2 _ rfl
        have fz1_2 := hk1.frozen 2
        have bx1_3 := hk1.at_ 3 _ rfl
        have fz1_3 := hk1.frozen 3
        have bx1_4 := hk1.at_ 4 _ rfl
        have fz1_4 := hk1.frozen 4
        go_wp2_with fail
        have hc : ChgA (bk_1) w4 (w4.setCell ⟨bk_1, 3, none⟩ (.int .i64 T)) := (ChgA.refl _ _).set _ _
        have hko := hk1
        replace hk0 := hk0.chgA hc (by omega)
        replace hk1 : Blk (w4.setCell ⟨bk_1, 3, none⟩ (.int .i64 T)) (bk_1) 99 [.int .i64 D, .int .i64 S, .int .i64 V, .int .i64 T, .string (s.extract 14 s.size)] := hk1.set_ 3 _
        have k5 : Below w.heap.size w (w4.setCell ⟨bk_1, 3, none⟩ (.int .i64 T)) := hc.below (by omega) k4
        have p5 : (w4.setCell ⟨bk_1, 3, none⟩ (.int .i64 T)).heap.size = w4.heap.size := hc.size
        have bl0 := Nat.lt_of_lt_of_le bl0 (Nat.le_of_eq p5.symm)
        have bl1 := Nat.lt_of_lt_of_le bl1 (Nat.le_of_eq p5.symm)
        generalize hW0 : (w4.setCell ⟨bk_1, 3, none⟩ (.int .i64 T)) = w5 at *
        clear hW0 hc hko
        clear bx1_0 fz1_0 bx1_1 fz1_1 bx1_2 fz1_2 bx1_3 fz1_3 bx1_4 fz1_4
        have hc : ChgA (bk_1) w5 (w5.setCell ⟨bk_1, 4, none⟩ (.string B)) := (ChgA.refl _ _).set _ _
        have hko := hk1
        replace hk0 := hk0.chgA hc (by omega)
        replace hk1 : Blk (w5.setCell ⟨bk_1, 4, none⟩ (.string B)) (bk_1) 99 [.int .i64 D, .int .i64 S, .int .i64 V, .int .i64 T, .string B] := hk1.set_ 4 _
        have k6 : Below w.heap.size w (w5.setCell ⟨bk_1, 4, none⟩ (.string B)) := hc.below (by omega) k5
        have p6 : (w5.setCell ⟨bk_1, 4, none⟩ (.string B)).heap.size = w5.heap.size := hc.size
        have bl0 := Nat.lt_of_lt_of_le bl0 (Nat.le_of_eq p6.symm)
        have bl1 := Nat.lt_of_lt_of_le bl1 (Nat.le_of_eq p6.symm)
        generalize hW0 : (w5.setCell ⟨bk_1, 4, none⟩ (.string B)) = w6 at *
        clear hW0 hc hko
        refine (hok _).mono ?_
        rintro e w7 ⟨rfl, hb⟩
        have k7 : Below w.heap.size w w7 := ext_step k6 (by omega) hb
        have p7 := hb.size
        replace hk0 := hk0.ext hb
        replace hk1 := hk1.ext hb
        have bl0 := Nat.lt_of_lt_of_le bl0 hb.size
        have bl1 := Nat.lt_of_lt_of_le bl1 hb.size
        clear hb
        have bx1_0 := hk1.at_ 0 _ rfl
        have bx1_1 := hk1.at_ 1 _ rfl
        have bx1_2 := hk1.at_ 2 _ rfl
        have bx1_3 := hk1.at_ 3 _ rfl
        have bx1_4 := hk1.at_ 4 _ rfl
        have bx0_0 := hk0.at_ 0 _ rfl
        have fz0_0 := hk0.frozen 0
        have bx0_1 := hk0.at_ 1 _ rfl
        have fz0_1 := hk0.frozen 1
        have bx0_2 := hk0.at_ 2 _ rfl
        have fz0_2 := hk0.frozen 2
        have bx0_3 := hk0.at_ 3 _ rfl
        have fz0_3 := hk0.frozen 3
        have bx0_4 := hk0.at_ 4 _ rfl
        have fz0_4 := hk0.frozen 4
        go_wp2_with fail
        clear bx1_0 bx1_1 bx1_2 bx1_3 bx1_4 hk1
        have hcc := ChgA.refl (w.heap.size) w7
        obtain ⟨w8_0, hW0⟩ : ∃ W, W = w7.setCell ⟨w.heap.size, 0, none⟩ (.int .i64 D) := ⟨_, rfl⟩
        replace hcc : ChgA (w.heap.size) w7 w8_0 := by rw [hW0]; exact hcc.set _ _
        replace hk0 : Blk w8_0 (w.heap.size) 99 [.int .i64 D, .int .i64 0, .int .i64 0, .int .i64 0, .string ⟨#[]⟩] := by rw [hW0]; exact hk0.set_ 0 _
        rw [← hW0]
        clear hW0
        obtain ⟨w8_1, hW0⟩ : ∃ W, W = w8_0.setCell ⟨w.heap.size, 1, none⟩ (.int .i64 S) := ⟨_, rfl⟩
        replace hcc : ChgA (w.heap.size) w7 w8_1 := by rw [hW0]; exact hcc.set _ _
        replace hk0 : Blk w8_1 (w.heap.size) 99 [.int .i64 D, .int .i64 S, .int .i64 0, .int .i64 0, .string ⟨#[]⟩] := by rw [hW0]; exact hk0.set_ 1 _
        rw [← hW0]
        clear hW0
        obtain ⟨w8_2, hW0⟩ : ∃ W, W = w8_1.setCell ⟨w.heap.size, 2, none⟩ (.int .i64 V) := ⟨_, rfl⟩
        replace hcc : ChgA (w.heap.size) w7 w8_2 := by rw [hW0]; exact hcc.set _ _
        replace hk0 : Blk w8_2 (w.heap.size) 99 [.int .i64 D, .int .i64 S, .int .i64 V, .int .i64 0, .string ⟨#[]⟩] := by rw [hW0]; exact hk0.set_ 2 _
        rw [← hW0]
        clear hW0
        obtain ⟨w8_3, hW0⟩ : ∃ W, W = w8_2.setCell ⟨w.heap.size, 3, none⟩ (.int .i64 T) := ⟨_, rfl⟩
        replace hcc : ChgA (w.heap.size) w7 w8_3 := by rw [hW0]; exact hcc.set _ _
        replace hk0 : Blk w8_3 (w.heap.size) 99 [.int .i64 D, .int .i64 S, .int .i64 V, .int .i64 T, .string ⟨#[]⟩] := by rw [hW0]; exact hk0.set_ 3 _
        rw [← hW0]
        clear hW0
        obtain ⟨w8, hW0⟩ : ∃ W, W = w8_3.setCell ⟨w.heap.size, 4, none⟩ (.string B) := ⟨_, rfl⟩
        replace hcc : ChgA (w.heap.size) w7 w8 := by rw [hW0]; exact hcc.set _ _
        replace hk0 : Blk w8 (w.heap.size) 99 [.int .i64 D, .int .i64 S, .int .i64 V, .int .i64 T, .string B] := by rw [hW0]; exact hk0.set_ 4 _
        rw [← hW0]
        clear hW0
        have hc := hcc
        have k8 := hc.below (by omega) k7
        have p8 := hc.size
        replace bl0 := Nat.lt_of_lt_of_le bl0 (Nat.le_of_eq p8.symm)
        replace bl1 := Nat.lt_of_lt_of_le bl1 (Nat.le_of_eq p8.symm)
        clear hc hcc
        clear bx0_0 fz0_0 bx0_1 fz0_1 bx0_2 fz0_2 bx0_3 fz0_3 bx0_4 fz0_4
        have bx0_0 := hk0.at_ 0 _ rfl
        have bx0_1 := hk0.at_ 1 _ rfl
        have bx0_2 := hk0.at_ 2 _ rfl
        have bx0_3 := hk0.at_ 3 _ rfl
        have bx0_4 := hk0.at_ 4 _ rfl
        refine bodyPost_ret (v := .tuple #[.agg #[.int .i64 D, .int .i64 S, .int .i64 V, .int .i64 T, .string B], .bool true]) (by simp [results, Try.results123, go_sem, bx0_0, bx0_1, bx0_2, bx0_3, bx0_4]) rfl ?_
        exact ⟨rfl, k8⟩
    · have hT := fun u => specGet16_c s 12 u hs ⟨by decide, by decide⟩
      have d3 : vlE s = -1 := by rw [vlE, if_neg h12]
      have d4 : tyE s = g16 s 12 := by rw [tyE, if_neg h12]
      have d5 : bdE s = s.extract 14 s.size := by rw [bdE, atN, if_neg h12]
      obtain ⟨T, hTT⟩ : ∃ T, g16 s 12 = T := ⟨_, rfl⟩
      rw [hTT] at h12
      simp only [hTT] at hT d4
      have hBs : (s.extract 14 s.size).size ≤ 1048576 := by rw [ByteArray.size_extract]; omega
      obtain ⟨B, hB⟩ : ∃ B, s.extract 14 s.size = B := ⟨_, rfl⟩
      rw [hB] at d5 hBs
      rw [d5]
      have heq : ethB D S (-1) T B = okE s := by rw [okE, d1, d2, d3, d4, d5, decide_eq_true (by omega), Bool.true_and]
      cases hok0 : okE s
      · rw [hok0] at heq
        simp only [ethI_no hok0, ethT_no hok0, d1, d2, d3, d4]
        have hEO := fun u => specEthOk_c D S (-1) T B u (by omega)
        simp only [heq] at hEO
        have hok := fun u => calls_bool (hEO u) rfl
        clear hEO
        go_enter Try.func123, Try.ntmps123
        go_wp2_with fail
        have k0 : Below w.heap.size w (w.alloc (.cells #[.int .i64 0, .int .i64 0, .int .i64 0, .int .i64 0, .string ⟨#[]⟩] 99)) := by go_grown
        have bl0 : w.heap.size < (w.alloc (.cells #[.int .i64 0, .int .i64 0, .int .i64 0, .int .i64 0, .string ⟨#[]⟩] 99)).heap.size := by go_size
        have hk0 : Blk (w.alloc (.cells #[.int .i64 0, .int .i64 0, .int .i64 0, .int .i64 0, .string ⟨#[]⟩] 99)) (w.heap.size) 99 [.int .i64 0, .int .i64 0, .int .i64 0, .int .i64 0, .string ⟨#[]⟩] := by simpa using Blk.new w 99 [.int .i64 0, .int .i64 0, .int .i64 0, .int .i64 0, .string ⟨#[]⟩]
        have p0 := k0.size
        generalize hW0 : (w.alloc (.cells #[.int .i64 0, .int .i64 0, .int .i64 0, .int .i64 0, .string ⟨#[]⟩] 99)) = w0 at *
        clear hW0
        have hBB : w.heap.size ≤ w0.heap.size := by omega
        refine wp_region_slotsS (w.heap.size) [(9, fun _ v => v = .string s), (10, fun _ v => v = .int .i64 (g16 s 0)), (11, fun _ v => v = .int .i64 (g16 s 0 * 4294967296)), (12, fun _ v => v = .string s), (13, fun _ v => v = .int .i64 (g32 s 2)), (14, fun _ v => v = .int .i64 D), (15, fun _ v => v = .string s), (16, fun _ v => v = .int .i64 (g16 s 6)), (17, fun _ v => v = .int .i64 (g16 s 6 * 4294967296)), (18, fun _ v => v = .string s), (19, fun _ v => v = .int .i64 (g32 s 8)), (20, fun _ v => v = .int .i64 S), (21, fun _ v => v = .string s), (22, fun _ v => v = .int .i64 T), (23, fun _ v => v = .string s), (24, fun _ v => v = .string B), (25, fun _ v => v = .agg #[.int .i64 D, .int .i64 S, .int .i64 (-1), .int .i64 T, .string B]), (4, BoxP w0.heap.size 99 5)] [⟨18, 4, fun _ => True, StoP w0.heap.size 99 [.int .i64 D, .int .i64 S, .int .i64 (-1), .int .i64 T, .string B]⟩] (fun u => Blk u (w.heap.size) 99 [.int .i64 0, .int .i64 0, .int .i64 0, .int .i64 0, .string ⟨#[]⟩]) (by kernel_rfl) hBB (by kernel_rfl) (by kernel_rfl) (by kernel_rfl) (by kernel_rfl) ?_ ?_ ?_ ?_ ?_ ?_ ?_
        · intro p hp
          simp only [List.mem_cons, List.not_mem_nil, or_false] at hp
          rcases hp with rfl | rfl | rfl | rfl | rfl | rfl | rfl | rfl | rfl | rfl | rfl | rfl | rfl | rfl | rfl | rfl | rfl | rfl
          all_goals (intro u u' v hb hv; first | exact hv | exact BoxP.keep hv hb | exact RowP.keep hv hb)
        · intro s hs u u' hb
          simp only [List.mem_cons, List.not_mem_nil, or_false] at hs
          rcases hs with rfl
          all_goals (refine ⟨fun h => ?_, fun _ h => ?_⟩ <;> first | exact h | exact StoP.keep h hb | exact StoR.keep h hb | exact Blk.ext h hb | exact StaR.keep h hb)
        · intro s hs
          simp only [List.mem_cons, List.not_mem_nil, or_false] at hs
          rcases hs with rfl
          all_goals first | trivial
        · exact hk0
        · intro u u' hb hj
          have j0 := hj
          exact (j0.ext hb)
        · intro hGk hSk hJk
          refine allStep_cons (stepS_plain hGk hSk hBB hJk (by kernel_rfl) rfl ?_) ?_
          · intro a u hb hz hj hl hp K Q hK
            have e0 : a.tmps[0]?.getD undef = .string s := gd (hl 0 (by kernel_rfl))
            go_simp
            exact hK _ _ (Below.refl _ _) (by intro d hd; cases hd; exact rfl)
          refine allStep_cons (stepS_plain hGk hSk hBB hJk (by kernel_rfl) rfl ?_) ?_
          · intro a u hb hz hj hl hp K Q hK
            have e9 : a.tmps[9]?.getD undef = .string s := gd (hl 9 (by kernel_rfl))
            go_simp
            refine (specGet16_c s 0 _ hs ⟨by decide, by decide⟩).mono ?_
            rintro e u1 ⟨rfl, hb1⟩
            exact hK _ _ hb1 (by intro d hd; cases hd; exact rfl)
          refine allStep_cons (stepS_plain hGk hSk hBB hJk (by kernel_rfl) rfl ?_) ?_
          · intro a u hb hz hj hl hp K Q hK
            have e10 : a.tmps[10]?.getD undef = .int .i64 (g16 s 0) := gd (hl 10 (by kernel_rfl))
            go_simp
            exact hK _ _ (Below.refl _ _) (by intro d hd; cases hd; exact rfl)
          refine allStep_cons (stepS_plain hGk hSk hBB hJk (by kernel_rfl) rfl ?_) ?_
          · intro a u hb hz hj hl hp K Q hK
            have e0 : a.tmps[0]?.getD undef = .string s := gd (hl 0 (by kernel_rfl))
            go_simp
            exact hK _ _ (Below.refl _ _) (by intro d hd; cases hd; exact rfl)
          refine allStep_cons (stepS_plain hGk hSk hBB hJk (by kernel_rfl) rfl ?_) ?_
          · intro a u hb hz hj hl hp K Q hK
            have e12 : a.tmps[12]?.getD undef = .string s := gd (hl 12 (by kernel_rfl))
            go_simp
            refine (specGet32_c s 2 _ hs ⟨by decide, by decide⟩).mono ?_
            rintro e u1 ⟨rfl, hb1⟩
            exact hK _ _ hb1 (by intro d hd; cases hd; exact rfl)
          refine allStep_cons (stepS_plain hGk hSk hBB hJk (by kernel_rfl) rfl ?_) ?_
          · intro a u hb hz hj hl hp K Q hK
            have e11 : a.tmps[11]?.getD undef = .int .i64 (g16 s 0 * 4294967296) := gd (hl 11 (by kernel_rfl))
            have e13 : a.tmps[13]?.getD undef = .int .i64 (g32 s 2) := gd (hl 13 (by kernel_rfl))
            go_simp
            exact hK _ _ (Below.refl _ _) (by intro d hd; cases hd; exact rfl)
          refine allStep_cons (stepS_plain hGk hSk hBB hJk (by kernel_rfl) rfl ?_) ?_
          · intro a u hb hz hj hl hp K Q hK
            have e0 : a.tmps[0]?.getD undef = .string s := gd (hl 0 (by kernel_rfl))
            go_simp
            exact hK _ _ (Below.refl _ _) (by intro d hd; cases hd; exact rfl)
          refine allStep_cons (stepS_plain hGk hSk hBB hJk (by kernel_rfl) rfl ?_) ?_
          · intro a u hb hz hj hl hp K Q hK
            have e15 : a.tmps[15]?.getD undef = .string s := gd (hl 15 (by kernel_rfl))
            go_simp
            refine (specGet16_c s 6 _ hs ⟨by decide, by decide⟩).mono ?_
            rintro e u1 ⟨rfl, hb1⟩
            exact hK _ _ hb1 (by intro d hd; cases hd; exact rfl)
          refine allStep_cons (stepS_plain hGk hSk hBB hJk (by kernel_rfl) rfl ?_) ?_
          · intro a u hb hz hj hl hp K Q hK
            have e16 : a.tmps[16]?.getD undef = .int .i64 (g16 s 6) := gd (hl 16 (by kernel_rfl))
            go_simp
            exact hK _ _ (Below.refl _ _) (by intro d hd; cases hd; exact rfl)
          refine allStep_cons (stepS_plain hGk hSk hBB hJk (by kernel_rfl) rfl ?_) ?_
          · intro a u hb hz hj hl hp K Q hK
            have e0 : a.tmps[0]?.getD undef = .string s := gd (hl 0 (by kernel_rfl))
            go_simp
            exact hK _ _ (Below.refl _ _) (by intro d hd; cases hd; exact rfl)
          refine allStep_cons (stepS_plain hGk hSk hBB hJk (by kernel_rfl) rfl ?_) ?_
          · intro a u hb hz hj hl hp K Q hK
            have e18 : a.tmps[18]?.getD undef = .string s := gd (hl 18 (by kernel_rfl))
            go_simp
            refine (specGet32_c s 8 _ hs ⟨by decide, by decide⟩).mono ?_
            rintro e u1 ⟨rfl, hb1⟩
            exact hK _ _ hb1 (by intro d hd; cases hd; exact rfl)
          refine allStep_cons (stepS_plain hGk hSk hBB hJk (by kernel_rfl) rfl ?_) ?_
          · intro a u hb hz hj hl hp K Q hK
            have e17 : a.tmps[17]?.getD undef = .int .i64 (g16 s 6 * 4294967296) := gd (hl 17 (by kernel_rfl))
            have e19 : a.tmps[19]?.getD undef = .int .i64 (g32 s 8) := gd (hl 19 (by kernel_rfl))
            go_simp
            exact hK _ _ (Below.refl _ _) (by intro d hd; cases hd; exact rfl)
          refine allStep_cons (stepS_plain hGk hSk hBB hJk (by kernel_rfl) rfl ?_) ?_
          · intro a u hb hz hj hl hp K Q hK
            have e0 : a.tmps[0]?.getD undef = .string s := gd (hl 0 (by kernel_rfl))
            go_simp
            exact hK _ _ (Below.refl _ _) (by intro d hd; cases hd; exact rfl)
          refine allStep_cons (stepS_plain hGk hSk hBB hJk (by kernel_rfl) rfl ?_) ?_
          · intro a u hb hz hj hl hp K Q hK
            have e21 : a.tmps[21]?.getD undef = .string s := gd (hl 21 (by kernel_rfl))
            go_simp
            refine (hT _).mono ?_
            rintro e u1 ⟨rfl, hb1⟩
            exact hK _ _ hb1 (by intro d hd; cases hd; exact rfl)
          refine allStep_cons (stepS_plain hGk hSk hBB hJk (by kernel_rfl) rfl ?_) ?_
          · intro a u hb hz hj hl hp K Q hK
            have e0 : a.tmps[0]?.getD undef = .string s := gd (hl 0 (by kernel_rfl))
            go_simp
            exact hK _ _ (Below.refl _ _) (by intro d hd; cases hd; exact rfl)
          refine allStep_cons (stepS_plain hGk hSk hBB hJk (by kernel_rfl) rfl ?_) ?_
          · intro a u hb hz hj hl hp K Q hK
            have e23 : a.tmps[23]?.getD undef = .string s := gd (hl 23 (by kernel_rfl))
            go_simp
            exact hK _ _ (Below.refl _ _) (by intro d hd; cases hd; exact rfl)
          refine allStep_cons (stepS_plain hGk hSk hBB hJk (by kernel_rfl) rfl ?_) ?_
          · intro a u hb hz hj hl hp K Q hK
            have e14 : a.tmps[14]?.getD undef = .int .i64 D := gd (hl 14 (by kernel_rfl))
            have e20 : a.tmps[20]?.getD undef = .int .i64 S := gd (hl 20 (by kernel_rfl))
            have e22 : a.tmps[22]?.getD undef = .int .i64 T := gd (hl 22 (by kernel_rfl))
            have e24 : a.tmps[24]?.getD undef = .string B := gd (hl 24 (by kernel_rfl))
            go_simp
            exact hK _ _ (Below.refl _ _) (by intro d hd; cases hd; exact rfl)
          refine allStep_cons (stepS_plain hGk hSk hBB hJk (by kernel_rfl) rfl ?_) ?_
          · intro a u hb hz hj hl hp K Q hK
            go_simp
            exact hK _ _ (by go_grown) (by intro d hd; cases hd; exact BoxP.new _ _ [.int .i64 0, .int .i64 0, .int .i64 0, .int .i64 0, .string ⟨#[]⟩] (by omega) rfl)
          refine allStep_cons (stepS_store (Chg w0.heap.size 99) (fun _ _ hc hb => hc.below' (by omega) hb) (fun _ _ hc => hc.size) (hold_rel ?_) ?_ ?_ rfl rfl ?_) ?_
          · intro p hp
            simp only [List.mem_cons, List.not_mem_nil, or_false] at hp
            rcases hp with rfl | rfl | rfl | rfl | rfl | rfl | rfl | rfl | rfl | rfl | rfl | rfl | rfl | rfl | rfl | rfl | rfl | rfl
            all_goals (intro u u' v hb hv; first | exact hv | exact BoxP.chg hv hb | exact RowP.chg hv hb (by decide))
          · intro s hs hne u u' hb
            simp only [List.mem_cons, List.not_mem_nil, or_false] at hs
            rcases hs with rfl
            all_goals first | exact absurd (by rfl) hne | (refine ⟨fun h => ?_, fun _ h => ?_⟩ <;> first | exact h | exact StoP.chg h hb (by decide) | exact StoR.chg h hb (by decide) (by decide) | exact Blk.chgL h hb (by omega) | exact StaR.chgL h hb (by omega) (by decide))
          · intro u u' hb hj
            have j0 := hj
            exact (j0.chgL hb (by omega))
          · intro a u hb hz hj hl hp K Q hK
            obtain ⟨b, exb, hB, zs, hzl, hbk⟩ : BoxP w0.heap.size 99 5 u (a.tmps.getD 4 undef) := hl 4 (by kernel_rfl)
            have e4 := gd exb
            have e25 : a.tmps[25]?.getD undef = .agg #[.int .i64 D, .int .i64 S, .int .i64 (-1), .int .i64 T, .string B] := gd (hl 25 (by kernel_rfl))
            obtain ⟨z0, z1, z2, z3, z4, rfl⟩ : ∃ z0 z1 z2 z3 z4, zs = [z0, z1, z2, z3, z4] := (by match zs, hzl with | [z0, z1, z2, z3, z4], _ => exact ⟨_, _, _, _, _, rfl⟩)
            have hlt := hbk.lt
            have g0 : u.cell? ⟨b, 0, none⟩ = some z0 := (hbk.cell 0).trans rfl
            have f0 := hbk.frozen 0
            have g1 : u.cell? ⟨b, 1, none⟩ = some z1 := (hbk.cell 1).trans rfl
            have f1 := hbk.frozen 1
            have g2 : u.cell? ⟨b, 2, none⟩ = some z2 := (hbk.cell 2).trans rfl
            have f2 := hbk.frozen 2
            have g3 : u.cell? ⟨b, 3, none⟩ = some z3 := (hbk.cell 3).trans rfl
            have f3 := hbk.frozen 3
            have g4 : u.cell? ⟨b, 4, none⟩ = some z4 := (hbk.cell 4).trans rfl
            have f4 := hbk.frozen 4
            go_simp
            refine hK undef _ ((((((Chg.refl _ _ _).set hbk hB 0 _).set (hbk.set_ 0 _) hB 1 _).set ((hbk.set_ 0 _).set_ 1 _) hB 2 _).set (((hbk.set_ 0 _).set_ 1 _).set_ 2 _) hB 3 _).set ((((hbk.set_ 0 _).set_ 1 _).set_ 2 _).set_ 3 _) hB 4 _) (fun s hs he => ?_)
            simp only [List.mem_cons, List.not_mem_nil, or_false] at hs
            rcases hs with rfl
            · exact ⟨b, exb, hB, (((((hbk.set_ 0 _).set_ 1 _).set_ 2 _).set_ 3 _).set_ 4 _)⟩
          exact allStep_nil
        intro xT w1 hb hz hj hL hSt
        clear hk0
        have hk0 : (fun u => Blk u (w.heap.size) 99 [.int .i64 0, .int .i64 0, .int .i64 0, .int .i64 0, .string ⟨#[]⟩]) w1 := hj
        dsimp only at hk0
        obtain ⟨bk_1, fx4, lo1, hk1⟩ : StoP w0.heap.size 99 [.int .i64 D, .int .i64 S, .int .i64 (-1), .int .i64 T, .string B] w1 (xT 4) := hSt _ (List.mem_of_getElem? (i := 0) rfl)
        simp only [List.map, putAll, fx4]
        have bl1 := hk1.lt
        have k1 : Below w.heap.size w w1 := k0.trans hb
        have p1 : w0.heap.size ≤ w1.heap.size := hb.size
        have bl0 := Nat.lt_of_lt_of_le bl0 hb.size
        clear hL hSt hb hz fx4
        have bx1_0 := hk1.at_ 0 _ rfl
        have bx1_1 := hk1.at_ 1 _ rfl
        have bx1_2 := hk1.at_ 2 _ rfl
        have bx1_3 := hk1.at_ 3 _ rfl
        have bx1_4 := hk1.at_ 4 _ rfl
        go_wp2_with fail
        refine (hok _).mono ?_
        rintro e w2 ⟨rfl, hb⟩
        have k2 : Below w.heap.size w w2 := ext_step k1 (by omega) hb
        have p2 := hb.size
        replace hk0 := hk0.ext hb
        replace hk1 := hk1.ext hb
        clear bx1_0 bx1_1 bx1_2 bx1_3 bx1_4
        have bl0 := Nat.lt_of_lt_of_le bl0 hb.size
        have bl1 := Nat.lt_of_lt_of_le bl1 hb.size
        clear hb
        clear  hk1
        have bx0_0 := hk0.at_ 0 _ rfl
        have fz0_0 := hk0.frozen 0
        have bx0_1 := hk0.at_ 1 _ rfl
        have fz0_1 := hk0.frozen 1
        have bx0_2 := hk0.at_ 2 _ rfl
        have fz0_2 := hk0.frozen 2
        have bx0_3 := hk0.at_ 3 _ rfl
        have fz0_3 := hk0.frozen 3
        have bx0_4 := hk0.at_ 4 _ rfl
        have fz0_4 := hk0.frozen 4
        go_wp2_with fail
        have hcc := ChgA.refl (w.heap.size) w2
        obtain ⟨w3_0, hW0⟩ : ∃ W, W = w2.setCell ⟨w.heap.size, 0, none⟩ (.int .i64 0) := ⟨_, rfl⟩
        replace hcc : ChgA (w.heap.size) w2 w3_0 := by rw [hW0]; exact hcc.set _ _
        replace hk0 : Blk w3_0 (w.heap.size) 99 [.int .i64 0, .int .i64 0, .int .i64 0, .int .i64 0, .string ⟨#[]⟩] := by rw [hW0]; exact hk0.set_ 0 _
        rw [← hW0]
        clear hW0
        obtain ⟨w3_1, hW0⟩ : ∃ W, W = w3_0.setCell ⟨w.heap.size, 1, none⟩ (.int .i64 0) := ⟨_, rfl⟩
        replace hcc : ChgA (w.heap.size) w2 w3_1 := by rw [hW0]; exact hcc.set _ _
        replace hk0 : Blk w3_1 (w.heap.size) 99 [.int .i64 0, .int .i64 0, .int .i64 0, .int .i64 0, .string ⟨#[]⟩] := by rw [hW0]; exact hk0.set_ 1 _
        rw [← hW0]
        clear hW0
        obtain ⟨w3_2, hW0⟩ : ∃ W, W = w3_1.setCell ⟨w.heap.size, 2, none⟩ (.int .i64 0) := ⟨_, rfl⟩
        replace hcc : ChgA (w.heap.size) w2 w3_2 := by rw [hW0]; exact hcc.set _ _
        replace hk0 : Blk w3_2 (w.heap.size) 99 [.int .i64 0, .int .i64 0, .int .i64 0, .int .i64 0, .string ⟨#[]⟩] := by rw [hW0]; exact hk0.set_ 2 _
        rw [← hW0]
        clear hW0
        obtain ⟨w3_3, hW0⟩ : ∃ W, W = w3_2.setCell ⟨w.heap.size, 3, none⟩ (.int .i64 0) := ⟨_, rfl⟩
        replace hcc : ChgA (w.heap.size) w2 w3_3 := by rw [hW0]; exact hcc.set _ _
        replace hk0 : Blk w3_3 (w.heap.size) 99 [.int .i64 0, .int .i64 0, .int .i64 0, .int .i64 0, .string ⟨#[]⟩] := by rw [hW0]; exact hk0.set_ 3 _
        rw [← hW0]
        clear hW0
        obtain ⟨w3, hW0⟩ : ∃ W, W = w3_3.setCell ⟨w.heap.size, 4, none⟩ (.string ⟨#[]⟩) := ⟨_, rfl⟩
        replace hcc : ChgA (w.heap.size) w2 w3 := by rw [hW0]; exact hcc.set _ _
        replace hk0 : Blk w3 (w.heap.size) 99 [.int .i64 0, .int .i64 0, .int .i64 0, .int .i64 0, .string ⟨#[]⟩] := by rw [hW0]; exact hk0.set_ 4 _
        rw [← hW0]
        clear hW0
        have hc := hcc
        have k3 := hc.below (by omega) k2
        have p3 := hc.size
        replace bl0 := Nat.lt_of_lt_of_le bl0 (Nat.le_of_eq p3.symm)
        replace bl1 := Nat.lt_of_lt_of_le bl1 (Nat.le_of_eq p3.symm)
        clear hc hcc
        clear bx0_0 fz0_0 bx0_1 fz0_1 bx0_2 fz0_2 bx0_3 fz0_3 bx0_4 fz0_4
        have bx0_0 := hk0.at_ 0 _ rfl
        have bx0_1 := hk0.at_ 1 _ rfl
        have bx0_2 := hk0.at_ 2 _ rfl
        have bx0_3 := hk0.at_ 3 _ rfl
        have bx0_4 := hk0.at_ 4 _ rfl
        refine bodyPost_ret (v := .tuple #[.agg #[.int .i64 0, .int .i64 0, .int .i64 0, .int .i64 0, .string ⟨#[]⟩], .bool false]) (by simp [results, Try.results123, go_sem, bx0_0, bx0_1, bx0_2, bx0_3, bx0_4]) rfl ?_
        exact ⟨rfl, k3⟩
      · rw [hok0] at heq
        simp only [ethI_yes hok0, ethT_yes hok0, d1, d2, d3, d4]
        have hEO := fun u => specEthOk_c D S (-1) T B u (by omega)
        simp only [heq] at hEO
        have hok := fun u => calls_bool (hEO u) rfl
        clear hEO
        go_enter Try.func123, Try.ntmps123
        go_wp2_with fail
        have k0 : Below w.heap.size w (w.alloc (.cells #[.int .i64 0, .int .i64 0, .int .i64 0, .int .i64 0, .string ⟨#[]⟩] 99)) := by go_grown
        have bl0 : w.heap.size < (w.alloc (.cells #[.int .i64 0, .int .i64 0, .int .i64 0, .int .i64 0, .string ⟨#[]⟩] 99)).heap.size := by go_size
        have hk0 : Blk (w.alloc (.cells #[.int .i64 0, .int .i64 0, .int .i64 0, .int .i64 0, .string ⟨#[]⟩] 99)) (w.heap.size) 99 [.int .i64 0, .int .i64 0, .int .i64 0, .int .i64 0, .string ⟨#[]⟩] := by simpa using Blk.new w 99 [.int .i64 0, .int .i64 0, .int .i64 0, .int .i64 0, .string ⟨#[]⟩]
        have p0 := k0.size
        generalize hW0 : (w.alloc (.cells #[.int .i64 0, .int .i64 0, .int .i64 0, .int .i64 0, .string ⟨#[]⟩] 99)) = w0 at *
        clear hW0
        have hBB : w.heap.size ≤ w0.heap.size := by omega
        refine wp_region_slotsS (w.heap.size) [(9, fun _ v => v = .string s), (10, fun _ v => v = .int .i64 (g16 s 0)), (11, fun _ v => v = .int .i64 (g16 s 0 * 4294967296)), (12, fun _ v => v = .string s), (13, fun _ v => v = .int .i64 (g32 s 2)), (14, fun _ v => v = .int .i64 D), (15, fun _ v => v = .string s), (16, fun _ v => v = .int .i64 (g16 s 6)), (17, fun _ v => v = .int .i64 (g16 s 6 * 4294967296)), (18, fun _ v => v = .string s), (19, fun _ v => v = .int .i64 (g32 s 8)), (20, fun _ v => v = .int .i64 S), (21, fun _ v => v = .string s), (22, fun _ v => v = .int .i64 T), (23, fun _ v => v = .string s), (24, fun _ v => v = .string B), (25, fun _ v => v = .agg #[.int .i64 D, .int .i64 S, .int .i64 (-1), .int .i64 T, .string B]), (4, BoxP w0.heap.size 99 5)] [⟨18, 4, fun _ => True, StoP w0.heap.size 99 [.int .i64 D, .int .i64 S, .int .i64 (-1), .int .i64 T, .string B]⟩] (fun u => Blk u (w.heap.size) 99 [.int .i64 0, .int .i64 0, .int .i64 0, .int .i64 0, .string ⟨#[]⟩]) (by kernel_rfl) hBB (by kernel_rfl) (by kernel_rfl) (by kernel_rfl) (by kernel_rfl) ?_ ?_ ?_ ?_ ?_ ?_ ?_
        · intro p hp
          simp only [List.mem_cons, List.not_mem_nil, or_false] at hp
          rcases hp with rfl | rfl | rfl | rfl | rfl | rfl | rfl | rfl | rfl | rfl | rfl | rfl | rfl | rfl | rfl | rfl | rfl | rfl
          all_goals (intro u u' v hb hv; first | exact hv | exact BoxP.keep hv hb | exact RowP.keep hv hb)
        · intro s hs u u' hb
          simp only [List.mem_cons, List.not_mem_nil, or_false] at hs
          rcases hs with rfl
          all_goals (refine ⟨fun h => ?_, fun _ h => ?_⟩ <;> first | exact h | exact StoP.keep h hb | exact StoR.keep h hb | exact Blk.ext h hb | exact StaR.keep h hb)
        · intro s hs
          simp only [List.mem_cons, List.not_mem_nil, or_false] at hs
          rcases hs with rfl
          all_goals first | trivial
        · exact hk0
        · intro u u' hb hj
          have j0 := hj
          exact (j0.ext hb)
        · intro hGk hSk hJk
          refine allStep_cons (stepS_plain hGk hSk hBB hJk (by kernel_rfl) rfl ?_) ?_
          · intro a u hb hz hj hl hp K Q hK
            have e0 : a.tmps[0]?.getD undef = .string s := gd (hl 0 (by kernel_rfl))
            go_simp
            exact hK _ _ (Below.refl _ _) (by intro d hd; cases hd; exact rfl)
          refine allStep_cons (stepS_plain hGk hSk hBB hJk (by kernel_rfl) rfl ?_) ?_
          · intro a u hb hz hj hl hp K Q hK
            have e9 : a.tmps[9]?.getD undef = .string s := gd (hl 9 (by kernel_rfl))
            go_simp
            refine (specGet16_c s 0 _ hs ⟨by decide, by decide⟩).mono ?_
            rintro e u1 ⟨rfl, hb1⟩
            exact hK _ _ hb1 (by intro d hd; cases hd; exact rfl)
          refine allStep_cons (stepS_plain hGk hSk hBB hJk (by kernel_rfl) rfl ?_) ?_
          · intro a u hb hz hj hl hp K Q hK
            have e10 : a.tmps[10]?.getD undef = .int .i64 (g16 s 0) := gd (hl 10 (by kernel_rfl))
            go_simp
            exact hK _ _ (Below.refl _ _) (by intro d hd; cases hd; exact rfl)
          refine allStep_cons (stepS_plain hGk hSk hBB hJk (by kernel_rfl) rfl ?_) ?_
          · intro a u hb hz hj hl hp K Q hK
            have e0 : a.tmps[0]?.getD undef = .string s := gd (hl 0 (by kernel_rfl))
            go_simp
            exact hK _ _ (Below.refl _ _) (by intro d hd; cases hd; exact rfl)
          refine allStep_cons (stepS_plain hGk hSk hBB hJk (by kernel_rfl) rfl ?_) ?_
          · intro a u hb hz hj hl hp K Q hK
            have e12 : a.tmps[12]?.getD undef = .string s := gd (hl 12 (by kernel_rfl))
            go_simp
            refine (specGet32_c s 2 _ hs ⟨by decide, by decide⟩).mono ?_
            rintro e u1 ⟨rfl, hb1⟩
            exact hK _ _ hb1 (by intro d hd; cases hd; exact rfl)
          refine allStep_cons (stepS_plain hGk hSk hBB hJk (by kernel_rfl) rfl ?_) ?_
          · intro a u hb hz hj hl hp K Q hK
            have e11 : a.tmps[11]?.getD undef = .int .i64 (g16 s 0 * 4294967296) := gd (hl 11 (by kernel_rfl))
            have e13 : a.tmps[13]?.getD undef = .int .i64 (g32 s 2) := gd (hl 13 (by kernel_rfl))
            go_simp
            exact hK _ _ (Below.refl _ _) (by intro d hd; cases hd; exact rfl)
          refine allStep_cons (stepS_plain hGk hSk hBB hJk (by kernel_rfl) rfl ?_) ?_
          · intro a u hb hz hj hl hp K Q hK
            have e0 : a.tmps[0]?.getD undef = .string s := gd (hl 0 (by kernel_rfl))
            go_simp
            exact hK _ _ (Below.refl _ _) (by intro d hd; cases hd; exact rfl)
          refine allStep_cons (stepS_plain hGk hSk hBB hJk (by kernel_rfl) rfl ?_) ?_
          · intro a u hb hz hj hl hp K Q hK
            have e15 : a.tmps[15]?.getD undef = .string s := gd (hl 15 (by kernel_rfl))
            go_simp
            refine (specGet16_c s 6 _ hs ⟨by decide, by decide⟩).mono ?_
            rintro e u1 ⟨rfl, hb1⟩
            exact hK _ _ hb1 (by intro d hd; cases hd; exact rfl)
          refine allStep_cons (stepS_plain hGk hSk hBB hJk (by kernel_rfl) rfl ?_) ?_
          · intro a u hb hz hj hl hp K Q hK
            have e16 : a.tmps[16]?.getD undef = .int .i64 (g16 s 6) := gd (hl 16 (by kernel_rfl))
            go_simp
            exact hK _ _ (Below.refl _ _) (by intro d hd; cases hd; exact rfl)
          refine allStep_cons (stepS_plain hGk hSk hBB hJk (by kernel_rfl) rfl ?_) ?_
          · intro a u hb hz hj hl hp K Q hK
            have e0 : a.tmps[0]?.getD undef = .string s := gd (hl 0 (by kernel_rfl))
            go_simp
            exact hK _ _ (Below.refl _ _) (by intro d hd; cases hd; exact rfl)
          refine allStep_cons (stepS_plain hGk hSk hBB hJk (by kernel_rfl) rfl ?_) ?_
          · intro a u hb hz hj hl hp K Q hK
            have e18 : a.tmps[18]?.getD undef = .string s := gd (hl 18 (by kernel_rfl))
            go_simp
            refine (specGet32_c s 8 _ hs ⟨by decide, by decide⟩).mono ?_
            rintro e u1 ⟨rfl, hb1⟩
            exact hK _ _ hb1 (by intro d hd; cases hd; exact rfl)
          refine allStep_cons (stepS_plain hGk hSk hBB hJk (by kernel_rfl) rfl ?_) ?_
          · intro a u hb hz hj hl hp K Q hK
            have e17 : a.tmps[17]?.getD undef = .int .i64 (g16 s 6 * 4294967296) := gd (hl 17 (by kernel_rfl))
            have e19 : a.tmps[19]?.getD undef = .int .i64 (g32 s 8) := gd (hl 19 (by kernel_rfl))
            go_simp
            exact hK _ _ (Below.refl _ _) (by intro d hd; cases hd; exact rfl)
          refine allStep_cons (stepS_plain hGk hSk hBB hJk (by kernel_rfl) rfl ?_) ?_
          · intro a u hb hz hj hl hp K Q hK
            have e0 : a.tmps[0]?.getD undef = .string s := gd (hl 0 (by kernel_rfl))
            go_simp
            exact hK _ _ (Below.refl _ _) (by intro d hd; cases hd; exact rfl)
          refine allStep_cons (stepS_plain hGk hSk hBB hJk (by kernel_rfl) rfl ?_) ?_
          · intro a u hb hz hj hl hp K Q hK
            have e21 : a.tmps[21]?.getD undef = .string s := gd (hl 21 (by kernel_rfl))
            go_simp
            refine (hT _).mono ?_
            rintro e u1 ⟨rfl, hb1⟩
            exact hK _ _ hb1 (by intro d hd; cases hd; exact rfl)
          refine allStep_cons (stepS_plain hGk hSk hBB hJk (by kernel_rfl) rfl ?_) ?_
          · intro a u hb hz hj hl hp K Q hK
            have e0 : a.tmps[0]?.getD undef = .string s := gd (hl 0 (by kernel_rfl))
            go_simp
            exact hK _ _ (Below.refl _ _) (by intro d hd; cases hd; exact rfl)
          refine allStep_cons (stepS_plain hGk hSk hBB hJk (by kernel_rfl) rfl ?_) ?_
          · intro a u hb hz hj hl hp K Q hK
            have e23 : a.tmps[23]?.getD undef = .string s := gd (hl 23 (by kernel_rfl))
            go_simp
            exact hK _ _ (Below.refl _ _) (by intro d hd; cases hd; exact rfl)
          refine allStep_cons (stepS_plain hGk hSk hBB hJk (by kernel_rfl) rfl ?_) ?_
          · intro a u hb hz hj hl hp K Q hK
            have e14 : a.tmps[14]?.getD undef = .int .i64 D := gd (hl 14 (by kernel_rfl))
            have e20 : a.tmps[20]?.getD undef = .int .i64 S := gd (hl 20 (by kernel_rfl))
            have e22 : a.tmps[22]?.getD undef = .int .i64 T := gd (hl 22 (by kernel_rfl))
            have e24 : a.tmps[24]?.getD undef = .string B := gd (hl 24 (by kernel_rfl))
            go_simp
            exact hK _ _ (Below.refl _ _) (by intro d hd; cases hd; exact rfl)
          refine allStep_cons (stepS_plain hGk hSk hBB hJk (by kernel_rfl) rfl ?_) ?_
          · intro a u hb hz hj hl hp K Q hK
            go_simp
            exact hK _ _ (by go_grown) (by intro d hd; cases hd; exact BoxP.new _ _ [.int .i64 0, .int .i64 0, .int .i64 0, .int .i64 0, .string ⟨#[]⟩] (by omega) rfl)
          refine allStep_cons (stepS_store (Chg w0.heap.size 99) (fun _ _ hc hb => hc.below' (by omega) hb) (fun _ _ hc => hc.size) (hold_rel ?_) ?_ ?_ rfl rfl ?_) ?_
          · intro p hp
            simp only [List.mem_cons, List.not_mem_nil, or_false] at hp
            rcases hp with rfl | rfl | rfl | rfl | rfl | rfl | rfl | rfl | rfl | rfl | rfl | rfl | rfl | rfl | rfl | rfl | rfl | rfl
            all_goals (intro u u' v hb hv; first | exact hv | exact BoxP.chg hv hb | exact RowP.chg hv hb (by decide))
          · intro s hs hne u u' hb
            simp only [List.mem_cons, List.not_mem_nil, or_false] at hs
            rcases hs with rfl
            all_goals first | exact absurd (by rfl) hne | (refine ⟨fun h => ?_, fun _ h => ?_⟩ <;> first | exact h | exact StoP.chg h hb (by decide) | exact StoR.chg h hb (by decide) (by decide) | exact Blk.chgL h hb (by omega) | exact StaR.chgL h hb (by omega) (by decide))
          · intro u u' hb hj
            have j0 := hj
            exact (j0.chgL hb (by omega))
          · intro a u hb hz hj hl hp K Q hK
            obtain ⟨b, exb, hB, zs, hzl, hbk⟩ : BoxP w0.heap.size 99 5 u (a.tmps.getD 4 undef) := hl 4 (by kernel_rfl)
            have e4 := gd exb
            have e25 : a.tmps[25]?.getD undef = .agg #[.int .i64 D, .int .i64 S, .int .i64 (-1), .int .i64 T, .string B] := gd (hl 25 (by kernel_rfl))
            obtain ⟨z0, z1, z2, z3, z4, rfl⟩ : ∃ z0 z1 z2 z3 z4, zs = [z0, z1, z2, z3, z4] := (by match zs, hzl with | [z0, z1, z2, z3, z4], _ => exact ⟨_, _, _, _, _, rfl⟩)
            have hlt := hbk.lt
            have g0 : u.cell? ⟨b, 0, none⟩ = some z0 := (hbk.cell 0).trans rfl
            have f0 := hbk.frozen 0
            have g1 : u.cell? ⟨b, 1, none⟩ = some z1 := (hbk.cell 1).trans rfl
            have f1 := hbk.frozen 1
            have g2 : u.cell? ⟨b, 2, none⟩ = some z2 := (hbk.cell 2).trans rfl
            have f2 := hbk.frozen 2
            have g3 : u.cell? ⟨b, 3, none⟩ = some z3 := (hbk.cell 3).trans rfl
            have f3 := hbk.frozen 3
            have g4 : u.cell? ⟨b, 4, none⟩ = some z4 := (hbk.cell 4).trans rfl
            have f4 := hbk.frozen 4
            go_simp
            refine hK undef _ ((((((Chg.refl _ _ _).set hbk hB 0 _).set (hbk.set_ 0 _) hB 1 _).set ((hbk.set_ 0 _).set_ 1 _) hB 2 _).set (((hbk.set_ 0 _).set_ 1 _).set_ 2 _) hB 3 _).set ((((hbk.set_ 0 _).set_ 1 _).set_ 2 _).set_ 3 _) hB 4 _) (fun s hs he => ?_)
            simp only [List.mem_cons, List.not_mem_nil, or_false] at hs
            rcases hs with rfl
            · exact ⟨b, exb, hB, (((((hbk.set_ 0 _).set_ 1 _).set_ 2 _).set_ 3 _).set_ 4 _)⟩
          exact allStep_nil
        intro xT w1 hb hz hj hL hSt
        clear hk0
        have hk0 : (fun u => Blk u (w.heap.size) 99 [.int .i64 0, .int .i64 0, .int .i64 0, .int .i64 0, .string ⟨#[]⟩]) w1 := hj
        dsimp only at hk0
        obtain ⟨bk_1, fx4, lo1, hk1⟩ : StoP w0.heap.size 99 [.int .i64 D, .int .i64 S, .int .i64 (-1), .int .i64 T, .string B] w1 (xT 4) := hSt _ (List.mem_of_getElem? (i := 0) rfl)
        simp only [List.map, putAll, fx4]
        have bl1 := hk1.lt
        have k1 : Below w.heap.size w w1 := k0.trans hb
        have p1 : w0.heap.size ≤ w1.heap.size := hb.size
        have bl0 := Nat.lt_of_lt_of_le bl0 hb.size
        clear hL hSt hb hz fx4
        have bx1_0 := hk1.at_ 0 _ rfl
        have bx1_1 := hk1.at_ 1 _ rfl
        have bx1_2 := hk1.at_ 2 _ rfl
        have bx1_3 := hk1.at_ 3 _ rfl
        have bx1_4 := hk1.at_ 4 _ rfl
        go_wp2_with fail
        refine (hok _).mono ?_
        rintro e w2 ⟨rfl, hb⟩
        have k2 : Below w.heap.size w w2 := ext_step k1 (by omega) hb
        have p2 := hb.size
        replace hk0 := hk0.ext hb
        replace hk1 := hk1.ext hb
        clear bx1_0 bx1_1 bx1_2 bx1_3 bx1_4
        have bl0 := Nat.lt_of_lt_of_le bl0 hb.size
        have bl1 := Nat.lt_of_lt_of_le bl1 hb.size
        clear hb
        have bx1_0 := hk1.at_ 0 _ rfl
        have bx1_1 := hk1.at_ 1 _ rfl
        have bx1_2 := hk1.at_ 2 _ rfl
        have bx1_3 := hk1.at_ 3 _ rfl
        have bx1_4 := hk1.at_ 4 _ rfl
        have bx0_0 := hk0.at_ 0 _ rfl
        have fz0_0 := hk0.frozen 0
        have bx0_1 := hk0.at_ 1 _ rfl
        have fz0_1 := hk0.frozen 1
        have bx0_2 := hk0.at_ 2 _ rfl
        have fz0_2 := hk0.frozen 2
        have bx0_3 := hk0.at_ 3 _ rfl
        have fz0_3 := hk0.frozen 3
        have bx0_4 := hk0.at_ 4 _ rfl
        have fz0_4 := hk0.frozen 4
        go_wp2_with fail
        clear bx1_0 bx1_1 bx1_2 bx1_3 bx1_4 hk1
        have hcc := ChgA.refl (w.heap.size) w2
        obtain ⟨w3_0, hW0⟩ : ∃ W, W = w2.setCell ⟨w.heap.size, 0, none⟩ (.int .i64 D) := ⟨_, rfl⟩
        replace hcc : ChgA (w.heap.size) w2 w3_0 := by rw [hW0]; exact hcc.set _ _
        replace hk0 : Blk w3_0 (w.heap.size) 99 [.int .i64 D, .int .i64 0, .int .i64 0, .int .i64 0, .string ⟨#[]⟩] := by rw [hW0]; exact hk0.set_ 0 _
        rw [← hW0]
        clear hW0
        obtain ⟨w3_1, hW0⟩ : ∃ W, W = w3_0.setCell ⟨w.heap.size, 1, none⟩ (.int .i64 S) := ⟨_, rfl⟩
        replace hcc : ChgA (w.heap.size) w2 w3_1 := by rw [hW0]; exact hcc.set _ _
        replace hk0 : Blk w3_1 (w.heap.size) 99 [.int .i64 D, .int .i64 S, .int .i64 0, .int .i64 0, .string ⟨#[]⟩] := by rw [hW0]; exact hk0.set_ 1 _
        rw [← hW0]
        clear hW0
        obtain ⟨w3_2, hW0⟩ : ∃ W, W = w3_1.setCell ⟨w.heap.size, 2, none⟩ (.int .i64 (-1)) := ⟨_, rfl⟩
        replace hcc : ChgA (w.heap.size) w2 w3_2 := by rw [hW0]; exact hcc.set _ _
        replace hk0 : Blk w3_2 (w.heap.size) 99 [.int .i64 D, .int .i64 S, .int .i64 (-1), .int .i64 0, .string ⟨#[]⟩] := by rw [hW0]; exact hk0.set_ 2 _
        rw [← hW0]
        clear hW0
        obtain ⟨w3_3, hW0⟩ : ∃ W, W = w3_2.setCell ⟨w.heap.size, 3, none⟩ (.int .i64 T) := ⟨_, rfl⟩
        replace hcc : ChgA (w.heap.size) w2 w3_3 := by rw [hW0]; exact hcc.set _ _
        replace hk0 : Blk w3_3 (w.heap.size) 99 [.int .i64 D, .int .i64 S, .int .i64 (-1), .int .i64 T, .string ⟨#[]⟩] := by rw [hW0]; exact hk0.set_ 3 _
        rw [← hW0]
        clear hW0
        obtain ⟨w3, hW0⟩ : ∃ W, W = w3_3.setCell ⟨w.heap.size, 4, none⟩ (.string B) := ⟨_, rfl⟩
        replace hcc : ChgA (w.heap.size) w2 w3 := by rw [hW0]; exact hcc.set _ _
        replace hk0 : Blk w3 (w.heap.size) 99 [.int .i64 D, .int .i64 S, .int .i64 (-1), .int .i64 T, .string B] := by rw [hW0]; exact hk0.set_ 4 _
        rw [← hW0]
        clear hW0
        have hc := hcc
        have k3 := hc.below (by omega) k2
        have p3 := hc.size
        replace bl0 := Nat.lt_of_lt_of_le bl0 (Nat.le_of_eq p3.symm)
        replace bl1 := Nat.lt_of_lt_of_le bl1 (Nat.le_of_eq p3.symm)
        clear hc hcc
        clear bx0_0 fz0_0 bx0_1 fz0_1 bx0_2 fz0_2 bx0_3 fz0_3 bx0_4 fz0_4
        have bx0_0 := hk0.at_ 0 _ rfl
        have bx0_1 := hk0.at_ 1 _ rfl
        have bx0_2 := hk0.at_ 2 _ rfl
        have bx0_3 := hk0.at_ 3 _ rfl
        have bx0_4 := hk0.at_ 4 _ rfl
        refine bodyPost_ret (v := .tuple #[.agg #[.int .i64 D, .int .i64 S, .int .i64 (-1), .int .i64 T, .string B], .bool true]) (by simp [results, Try.results123, go_sem, bx0_0, bx0_1, bx0_2, bx0_3, bx0_4]) rfl ?_
        exact ⟨rfl, k3⟩
set_option maxRecDepth 100000 in
set_option maxHeartbeats 8000000 in
theorem implParseEth_c (s : ByteArray) (w : World) (hs : s.size ≤ 1048576) :
    Calls Try.prog 61 #[.string s] w fun e w' => e = .returned (.tuple #[.agg #[.int .i64 (ethI s (dstE s)), .int .i64 (ethI s (srcE s)), .int .i64 (ethI s (vlE s)), .int .i64 (ethI s (tyE s)), .string (ethT s (bdE s))], .bool (okE s)]) ∧ Below w.heap.size w w' := by
  by_cases h14 : s.size < 14
  · have hok0 : okE s = false := by rw [okE, decide_eq_false (by omega)]; rfl
    rw [hok0]
    simp only [ethI_no hok0, ethT_no hok0]
    go_enter Try.func61, Try.ntmps61
    go_wp2
    refine bodyPost_ret (v := .tuple #[.agg #[.int .i64 0, .int .i64 0, .int .i64 0, .int .i64 0, .string ⟨#[]⟩], .bool false]) (by simp [results, Try.results61, go_sem]) rfl ?_
    exact ⟨rfl, by go_grown⟩
  · by_cases h18 : s.size < 18
    · have l14 : (14 : Int) ≤ (s.size : Int) := by omega
      have l18 : ¬ (18 : Int) ≤ (s.size : Int) := by omega
      have y0 := g16_nn (s := s) (a := 0) (hasI (by omega) (by omega))
      have y1 := g32_nn (s := s) (a := 2) (hasI (by omega) (by omega))
      have y2 := g16_nn (s := s) (a := 6) (hasI (by omega) (by omega))
      have y3 := g32_nn (s := s) (a := 8) (hasI (by omega) (by omega))
      have b0 := g16_bd s 0
      have b1 := g32_bd s 2
      have b2 := g16_bd s 6
      have b3 := g32_bd s 8
      have hD := bits_or (a := g16 s 0 * 4294967296) (b := g32 s 2) (q := g16 s 0) (p := 4294967296) 32 (by decide) rfl y0 y1 (by omega) (by omega)
      have hS := bits_or (a := g16 s 6 * 4294967296) (b := g32 s 8) (q := g16 s 6) (p := 4294967296) 32 (by decide) rfl y2 y3 (by omega) (by omega)
      obtain ⟨D, hDD⟩ : ∃ D, g16 s 0 * 4294967296 + g32 s 2 = D := ⟨_, rfl⟩
      obtain ⟨S, hSS⟩ : ∃ S, g16 s 6 * 4294967296 + g32 s 8 = S := ⟨_, rfl⟩
      have d1 : dstE s = D := hDD
      have d2 : srcE s = S := hSS
      rw [hDD] at hD
      rw [hSS] at hS
      have ew0 : IntKind.i64.wrap (g16 s 0 * 4294967296) = g16 s 0 * 4294967296 := IntWalk.i64_in _ ⟨by omega, by omega⟩
      have ew1 : IntKind.i64.wrap (g16 s 6 * 4294967296) = g16 s 6 * 4294967296 := IntWalk.i64_in _ ⟨by omega, by omega⟩
      by_cases h12 : g16 s 12 = 33024
      · have hT := fun u => implGet16_c s 12 u hs ⟨by decide, by decide⟩
        simp only [h12] at hT
        have hBs : (s.extract 14 s.size).size < 46 := by rw [ByteArray.size_extract]; omega
        have hok0 : okE s = false := by rw [okE, decide_eq_false (by omega)]; rfl
        rw [hok0]
        simp only [ethI_no hok0, ethT_no hok0]
        obtain ⟨B, hB⟩ : ∃ B, s.extract 14 s.size = B := ⟨_, rfl⟩
        have hBs2 : B.size < 46 := by rw [← hB]; exact hBs
        have heq : ethB D S (-1) 33024 B = false := by simp [ethB]
        have hEO := fun u => implEthOk_c D S (-1) 33024 B u (by omega)
        simp only [heq] at hEO
        have hok := fun u => calls_bool (hEO u) rfl
        clear hEO
        clear hBs
        go_enter Try.func61, Try.ntmps61
        go_wp2_with fail
        have k0 : Below w.heap.size w (w.alloc (.cells #[.int .i64 0, .int .i64 0, .int .i64 0, .int .i64 0, .string ⟨#[]⟩] 99)) := by go_grown
        have bl0 : w.heap.size < (w.alloc (.cells #[.int .i64 0, .int .i64 0, .int .i64 0, .int .i64 0, .string ⟨#[]⟩] 99)).heap.size := by go_size
        have hk0 : Blk (w.alloc (.cells #[.int .i64 0, .int .i64 0, .int .i64 0, .int .i64 0, .string ⟨#[]⟩] 99)) (w.heap.size) 99 [.int .i64 0, .int .i64 0, .int .i64 0, .int .i64 0, .string ⟨#[]⟩] := by simpa using Blk.new w 99 [.int .i64 0, .int .i64 0, .int .i64 0, .int .i64 0, .string ⟨#[]⟩]
        have p0 := k0.size
        generalize hW0 : (w.alloc (.cells #[.int .i64 0, .int .i64 0, .int .i64 0, .int .i64 0, .string ⟨#[]⟩] 99)) = w0 at *
        clear hW0
        have hBB : w.heap.size ≤ w0.heap.size := by omega
        refine wp_region_slotsS (w.heap.size) [(9, fun _ v => v = .string s), (10, fun _ v => v = .int .i64 (g16 s 0)), (11, fun _ v => v = .int .i64 (g16 s 0 * 4294967296)), (12, fun _ v => v = .string s), (13, fun _ v => v = .int .i64 (g32 s 2)), (14, fun _ v => v = .int .i64 D), (15, fun _ v => v = .string s), (16, fun _ v => v = .int .i64 (g16 s 6)), (17, fun _ v => v = .int .i64 (g16 s 6 * 4294967296)), (18, fun _ v => v = .string s), (19, fun _ v => v = .int .i64 (g32 s 8)), (20, fun _ v => v = .int .i64 S), (21, fun _ v => v = .string s), (22, fun _ v => v = .int .i64 33024), (23, fun _ v => v = .string s), (24, fun _ v => v = .string B), (25, fun _ v => v = .agg #[.int .i64 D, .int .i64 S, .int .i64 (-1), .int .i64 33024, .string B]), (4, BoxP w0.heap.size 99 5)] [⟨18, 4, fun _ => True, StoP w0.heap.size 99 [.int .i64 D, .int .i64 S, .int .i64 (-1), .int .i64 33024, .string B]⟩] (fun u => Blk u (w.heap.size) 99 [.int .i64 0, .int .i64 0, .int .i64 0, .int .i64 0, .string ⟨#[]⟩]) (by kernel_rfl) hBB (by kernel_rfl) (by kernel_rfl) (by kernel_rfl) (by kernel_rfl) ?_ ?_ ?_ ?_ ?_ ?_ ?_
        · intro p hp
          simp only [List.mem_cons, List.not_mem_nil, or_false] at hp
          rcases hp with rfl | rfl | rfl | rfl | rfl | rfl | rfl | rfl | rfl | rfl | rfl | rfl | rfl | rfl | rfl | rfl | rfl | rfl
          all_goals (intro u u' v hb hv; first | exact hv | exact BoxP.keep hv hb | exact RowP.keep hv hb)
        · intro s hs u u' hb
          simp only [List.mem_cons, List.not_mem_nil, or_false] at hs
          rcases hs with rfl
          all_goals (refine ⟨fun h => ?_, fun _ h => ?_⟩ <;> first | exact h | exact StoP.keep h hb | exact StoR.keep h hb | exact Blk.ext h hb | exact StaR.keep h hb)
        · intro s hs
          simp only [List.mem_cons, List.not_mem_nil, or_false] at hs
          rcases hs with rfl
          all_goals first | trivial
        · exact hk0
        · intro u u' hb hj
          have j0 := hj
          exact (j0.ext hb)
        · intro hGk hSk hJk
          refine allStep_cons (stepS_plain hGk hSk hBB hJk (by kernel_rfl) rfl ?_) ?_
          · intro a u hb hz hj hl hp K Q hK
            have e0 : a.tmps[0]?.getD undef = .string s := gd (hl 0 (by kernel_rfl))
            go_simp
            exact hK _ _ (Below.refl _ _) (by intro d hd; cases hd; exact rfl)
          refine allStep_cons (stepS_plain hGk hSk hBB hJk (by kernel_rfl) rfl ?_) ?_
          · intro a u hb hz hj hl hp K Q hK
            have e9 : a.tmps[9]?.getD undef = .string s := gd (hl 9 (by kernel_rfl))
            go_simp
            refine (implGet16_c s 0 _ hs ⟨by decide, by decide⟩).mono ?_
            rintro e u1 ⟨rfl, hb1⟩
            exact hK _ _ hb1 (by intro d hd; cases hd; exact rfl)
          refine allStep_cons (stepS_plain hGk hSk hBB hJk (by kernel_rfl) rfl ?_) ?_
          · intro a u hb hz hj hl hp K Q hK
            have e10 : a.tmps[10]?.getD undef = .int .i64 (g16 s 0) := gd (hl 10 (by kernel_rfl))
            go_simp
            exact hK _ _ (Below.refl _ _) (by intro d hd; cases hd; exact rfl)
          refine allStep_cons (stepS_plain hGk hSk hBB hJk (by kernel_rfl) rfl ?_) ?_
          · intro a u hb hz hj hl hp K Q hK
            have e0 : a.tmps[0]?.getD undef = .string s := gd (hl 0 (by kernel_rfl))
            go_simp
            exact hK _ _ (Below.refl _ _) (by intro d hd; cases hd; exact rfl)
          refine allStep_cons (stepS_plain hGk hSk hBB hJk (by kernel_rfl) rfl ?_) ?_
          · intro a u hb hz hj hl hp K Q hK
            have e12 : a.tmps[12]?.getD undef = .string s := gd (hl 12 (by kernel_rfl))
            go_simp
            refine (implGet32_c s 2 _ hs ⟨by decide, by decide⟩).mono ?_
            rintro e u1 ⟨rfl, hb1⟩
            exact hK _ _ hb1 (by intro d hd; cases hd; exact rfl)
          refine allStep_cons (stepS_plain hGk hSk hBB hJk (by kernel_rfl) rfl ?_) ?_
          · intro a u hb hz hj hl hp K Q hK
            have e11 : a.tmps[11]?.getD undef = .int .i64 (g16 s 0 * 4294967296) := gd (hl 11 (by kernel_rfl))
            have e13 : a.tmps[13]?.getD undef = .int .i64 (g32 s 2) := gd (hl 13 (by kernel_rfl))
            go_simp
            exact hK _ _ (Below.refl _ _) (by intro d hd; cases hd; exact rfl)
          refine allStep_cons (stepS_plain hGk hSk hBB hJk (by kernel_rfl) rfl ?_) ?_
          · intro a u hb hz hj hl hp K Q hK
            have e0 : a.tmps[0]?.getD undef = .string s := gd (hl 0 (by kernel_rfl))
            go_simp
            exact hK _ _ (Below.refl _ _) (by intro d hd; cases hd; exact rfl)
          refine allStep_cons (stepS_plain hGk hSk hBB hJk (by kernel_rfl) rfl ?_) ?_
          · intro a u hb hz hj hl hp K Q hK
            have e15 : a.tmps[15]?.getD undef = .string s := gd (hl 15 (by kernel_rfl))
            go_simp
            refine (implGet16_c s 6 _ hs ⟨by decide, by decide⟩).mono ?_
            rintro e u1 ⟨rfl, hb1⟩
            exact hK _ _ hb1 (by intro d hd; cases hd; exact rfl)
          refine allStep_cons (stepS_plain hGk hSk hBB hJk (by kernel_rfl) rfl ?_) ?_
          · intro a u hb hz hj hl hp K Q hK
            have e16 : a.tmps[16]?.getD undef = .int .i64 (g16 s 6) := gd (hl 16 (by kernel_rfl))
            go_simp
            exact hK _ _ (Below.refl _ _) (by intro d hd; cases hd; exact rfl)
          refine allStep_cons (stepS_plain hGk hSk hBB hJk (by kernel_rfl) rfl ?_) ?_
          · intro a u hb hz hj hl hp K Q hK
            have e0 : a.tmps[0]?.getD undef = .string s := gd (hl 0 (by kernel_rfl))
            go_simp
            exact hK _ _ (Below.refl _ _) (by intro d hd; cases hd; exact rfl)
          refine allStep_cons (stepS_plain hGk hSk hBB hJk (by kernel_rfl) rfl ?_) ?_
          · intro a u hb hz hj hl hp K Q hK
            have e18 : a.tmps[18]?.getD undef = .string s := gd (hl 18 (by kernel_rfl))
            go_simp
            refine (implGet32_c s 8 _ hs ⟨by decide, by decide⟩).mono ?_
            rintro e u1 ⟨rfl, hb1⟩
            exact hK _ _ hb1 (by intro d hd; cases hd; exact rfl)
          refine allStep_cons (stepS_plain hGk hSk hBB hJk (by kernel_rfl) rfl ?_) ?_
          · intro a u hb hz hj hl hp K Q hK
            have e17 : a.tmps[17]?.getD undef = .int .i64 (g16 s 6 * 4294967296) := gd (hl 17 (by kernel_rfl))
            have e19 : a.tmps[19]?.getD undef = .int .i64 (g32 s 8) := gd (hl 19 (by kernel_rfl))
            go_simp
            exact hK _ _ (Below.refl _ _) (by intro d hd; cases hd; exact rfl)
          refine allStep_cons (stepS_plain hGk hSk hBB hJk (by kernel_rfl) rfl ?_) ?_
          · intro a u hb hz hj hl hp K Q hK
            have e0 : a.tmps[0]?.getD undef = .string s := gd (hl 0 (by kernel_rfl))
            go_simp
            exact hK _ _ (Below.refl _ _) (by intro d hd; cases hd; exact rfl)
          refine allStep_cons (stepS_plain hGk hSk hBB hJk (by kernel_rfl) rfl ?_) ?_
          · intro a u hb hz hj hl hp K Q hK
            have e21 : a.tmps[21]?.getD undef = .string s := gd (hl 21 (by kernel_rfl))
            go_simp
            refine (hT _).mono ?_
            rintro e u1 ⟨rfl, hb1⟩
            exact hK _ _ hb1 (by intro d hd; cases hd; exact rfl)
          refine allStep_cons (stepS_plain hGk hSk hBB hJk (by kernel_rfl) rfl ?_) ?_
          · intro a u hb hz hj hl hp K Q hK
            have e0 : a.tmps[0]?.getD undef = .string s := gd (hl 0 (by kernel_rfl))
            go_simp
            exact hK _ _ (Below.refl _ _) (by intro d hd; cases hd; exact rfl)
          refine allStep_cons (stepS_plain hGk hSk hBB hJk (by kernel_rfl) rfl ?_) ?_
          · intro a u hb hz hj hl hp K Q hK
            have e23 : a.tmps[23]?.getD undef = .string s := gd (hl 23 (by kernel_rfl))
            go_simp
            exact hK _ _ (Below.refl _ _) (by intro d hd; cases hd; exact rfl)
          refine allStep_cons (stepS_plain hGk hSk hBB hJk (by kernel_rfl) rfl ?_) ?_
          · intro a u hb hz hj hl hp K Q hK
            have e14 : a.tmps[14]?.getD undef = .int .i64 D := gd (hl 14 (by kernel_rfl))
            have e20 : a.tmps[20]?.getD undef = .int .i64 S := gd (hl 20 (by kernel_rfl))
            have e22 : a.tmps[22]?.getD undef = .int .i64 33024 := gd (hl 22 (by kernel_rfl))
            have e24 : a.tmps[24]?.getD undef = .string B := gd (hl 24 (by kernel_rfl))
            go_simp
            exact hK _ _ (Below.refl _ _) (by intro d hd; cases hd; exact rfl)
          refine allStep_cons (stepS_plain hGk hSk hBB hJk (by kernel_rfl) rfl ?_) ?_
          · intro a u hb hz hj hl hp K Q hK
            go_simp
            exact hK _ _ (by go_grown) (by intro d hd; cases hd; exact BoxP.new _ _ [.int .i64 0, .int .i64 0, .int .i64 0, .int .i64 0, .string ⟨#[]⟩] (by omega) rfl)
          refine allStep_cons (stepS_store (Chg w0.heap.size 99) (fun _ _ hc hb => hc.below' (by omega) hb) (fun _ _ hc => hc.size) (hold_rel ?_) ?_ ?_ rfl rfl ?_) ?_
          · intro p hp
            simp only [List.mem_cons, List.not_mem_nil, or_false] at hp
            rcases hp with rfl | rfl | rfl | rfl | rfl | rfl | rfl | rfl | rfl | rfl | rfl | rfl | rfl | rfl | rfl | rfl | rfl | rfl
            all_goals (intro u u' v hb hv; first | exact hv | exact BoxP.chg hv hb | exact RowP.chg hv hb (by decide))
          · intro s hs hne u u' hb
            simp only [List.mem_cons, List.not_mem_nil, or_false] at hs
            rcases hs with rfl
            all_goals first | exact absurd (by rfl) hne | (refine ⟨fun h => ?_, fun _ h => ?_⟩ <;> first | exact h | exact StoP.chg h hb (by decide) | exact StoR.chg h hb (by decide) (by decide) | exact Blk.chgL h hb (by omega) | exact StaR.chgL h hb (by omega) (by decide))
          · intro u u' hb hj
            have j0 := hj
            exact (j0.chgL hb (by omega))
          · intro a u hb hz hj hl hp K Q hK
            obtain ⟨b, exb, hB, zs, hzl, hbk⟩ : BoxP w0.heap.size 99 5 u (a.tmps.getD 4 undef) := hl 4 (by kernel_rfl)
            have e4 := gd exb
            have e25 : a.tmps[25]?.getD undef = .agg #[.int .i64 D, .int .i64 S, .int .i64 (-1), .int .i64 33024, .string B] := gd (hl 25 (by kernel_rfl))
            obtain ⟨z0, z1, z2, z3, z4, rfl⟩ : ∃ z0 z1 z2 z3 z4, zs = [z0, z1, z2, z3, z4] := (by match zs, hzl with | [z0, z1, z2, z3, z4], _ => exact ⟨_, _, _, _, _, rfl⟩)
            have hlt := hbk.lt
            have g0 : u.cell? ⟨b, 0, none⟩ = some z0 := (hbk.cell 0).trans rfl
            have f0 := hbk.frozen 0
            have g1 : u.cell? ⟨b, 1, none⟩ = some z1 := (hbk.cell 1).trans rfl
            have f1 := hbk.frozen 1
            have g2 : u.cell? ⟨b, 2, none⟩ = some z2 := (hbk.cell 2).trans rfl
            have f2 := hbk.frozen 2
            have g3 : u.cell? ⟨b, 3, none⟩ = some z3 := (hbk.cell 3).trans rfl
            have f3 := hbk.frozen 3
            have g4 : u.cell? ⟨b, 4, none⟩ = some z4 := (hbk.cell 4).trans rfl
            have f4 := hbk.frozen 4
            go_simp
            refine hK undef _ ((((((Chg.refl _ _ _).set hbk hB 0 _).set (hbk.set_ 0 _) hB 1 _).set ((hbk.set_ 0 _).set_ 1 _) hB 2 _).set (((hbk.set_ 0 _).set_ 1 _).set_ 2 _) hB 3 _).set ((((hbk.set_ 0 _).set_ 1 _).set_ 2 _).set_ 3 _) hB 4 _) (fun s hs he => ?_)
            simp only [List.mem_cons, List.not_mem_nil, or_false] at hs
            rcases hs with rfl
            · exact ⟨b, exb, hB, (((((hbk.set_ 0 _).set_ 1 _).set_ 2 _).set_ 3 _).set_ 4 _)⟩
          exact allStep_nil
        intro xT w1 hb hz hj hL hSt
        clear hk0
        have hk0 : (fun u => Blk u (w.heap.size) 99 [.int .i64 0, .int .i64 0, .int .i64 0, .int .i64 0, .string ⟨#[]⟩]) w1 := hj
        dsimp only at hk0
        obtain ⟨bk_1, fx4, lo1, hk1⟩ : StoP w0.heap.size 99 [.int .i64 D, .int .i64 S, .int .i64 (-1), .int .i64 33024, .string B] w1 (xT 4) := hSt _ (List.mem_of_getElem? (i := 0) rfl)
        simp only [List.map, putAll, fx4]
        have bl1 := hk1.lt
        have k1 : Below w.heap.size w w1 := k0.trans hb
        have p1 : w0.heap.size ≤ w1.heap.size := hb.size
        have bl0 := Nat.lt_of_lt_of_le bl0 hb.size
        clear hL hSt hb hz fx4
        have bx1_0 := hk1.at_ 0 _ rfl
        have bx1_1 := hk1.at_ 1 _ rfl
        have bx1_2 := hk1.at_ 2 _ rfl
        have bx1_3 := hk1.at_ 3 _ rfl
        have bx1_4 := hk1.at_ 4 _ rfl
        go_wp2_with fail
        refine (hok _).mono ?_
        rintro e w2 ⟨rfl, hb⟩
        have k2 : Below w.heap.size w w2 := ext_step k1 (by omega) hb
        have p2 := hb.size
        replace hk0 := hk0.ext hb
        replace hk1 := hk1.ext hb
        clear bx1_0 bx1_1 bx1_2 bx1_3 bx1_4
        have bl0 := Nat.lt_of_lt_of_le bl0 hb.size
        have bl1 := Nat.lt_of_lt_of_le bl1 hb.size
        clear hb
        clear  hk1
        have bx0_0 := hk0.at_ 0 _ rfl
        have fz0_0 := hk0.frozen 0
        have bx0_1 := hk0.at_ 1 _ rfl
        have fz0_1 := hk0.frozen 1
        have bx0_2 := hk0.at_ 2 _ rfl
        have fz0_2 := hk0.frozen 2
        have bx0_3 := hk0.at_ 3 _ rfl
        have fz0_3 := hk0.frozen 3
        have bx0_4 := hk0.at_ 4 _ rfl
        have fz0_4 := hk0.frozen 4
        go_wp2_with fail
        have hcc := ChgA.refl (w.heap.size) w2
        obtain ⟨w3_0, hW0⟩ : ∃ W, W = w2.setCell ⟨w.heap.size, 0, none⟩ (.int .i64 0) := ⟨_, rfl⟩
        replace hcc : ChgA (w.heap.size) w2 w3_0 := by rw [hW0]; exact hcc.set _ _
        replace hk0 : Blk w3_0 (w.heap.size) 99 [.int .i64 0, .int .i64 0, .int .i64 0, .int .i64 0, .string ⟨#[]⟩] := by rw [hW0]; exact hk0.set_ 0 _
        rw [← hW0]
        clear hW0
        obtain ⟨w3_1, hW0⟩ : ∃ W, W = w3_0.setCell ⟨w.heap.size, 1, none⟩ (.int .i64 0) := ⟨_, rfl⟩
        replace hcc : ChgA (w.heap.size) w2 w3_1 := by rw [hW0]; exact hcc.set _ _
        replace hk0 : Blk w3_1 (w.heap.size) 99 [.int .i64 0, .int .i64 0, .int .i64 0, .int .i64 0, .string ⟨#[]⟩] := by rw [hW0]; exact hk0.set_ 1 _
        rw [← hW0]
        clear hW0
        obtain ⟨w3_2, hW0⟩ : ∃ W, W = w3_1.setCell ⟨w.heap.size, 2, none⟩ (.int .i64 0) := ⟨_, rfl⟩
        replace hcc : ChgA (w.heap.size) w2 w3_2 := by rw [hW0]; exact hcc.set _ _
        replace hk0 : Blk w3_2 (w.heap.size) 99 [.int .i64 0, .int .i64 0, .int .i64 0, .int .i64 0, .string ⟨#[]⟩] := by rw [hW0]; exact hk0.set_ 2 _
        rw [← hW0]
        clear hW0
        obtain ⟨w3_3, hW0⟩ : ∃ W, W = w3_2.setCell ⟨w.heap.size, 3, none⟩ (.int .i64 0) := ⟨_, rfl⟩
        replace hcc : ChgA (w.heap.size) w2 w3_3 := by rw [hW0]; exact hcc.set _ _
        replace hk0 : Blk w3_3 (w.heap.size) 99 [.int .i64 0, .int .i64 0, .int .i64 0, .int .i64 0, .string ⟨#[]⟩] := by rw [hW0]; exact hk0.set_ 3 _
        rw [← hW0]
        clear hW0
        obtain ⟨w3, hW0⟩ : ∃ W, W = w3_3.setCell ⟨w.heap.size, 4, none⟩ (.string ⟨#[]⟩) := ⟨_, rfl⟩
        replace hcc : ChgA (w.heap.size) w2 w3 := by rw [hW0]; exact hcc.set _ _
        replace hk0 : Blk w3 (w.heap.size) 99 [.int .i64 0, .int .i64 0, .int .i64 0, .int .i64 0, .string ⟨#[]⟩] := by rw [hW0]; exact hk0.set_ 4 _
        rw [← hW0]
        clear hW0
        have hc := hcc
        have k3 := hc.below (by omega) k2
        have p3 := hc.size
        replace bl0 := Nat.lt_of_lt_of_le bl0 (Nat.le_of_eq p3.symm)
        replace bl1 := Nat.lt_of_lt_of_le bl1 (Nat.le_of_eq p3.symm)
        clear hc hcc
        clear bx0_0 fz0_0 bx0_1 fz0_1 bx0_2 fz0_2 bx0_3 fz0_3 bx0_4 fz0_4
        have bx0_0 := hk0.at_ 0 _ rfl
        have bx0_1 := hk0.at_ 1 _ rfl
        have bx0_2 := hk0.at_ 2 _ rfl
        have bx0_3 := hk0.at_ 3 _ rfl
        have bx0_4 := hk0.at_ 4 _ rfl
        refine bodyPost_ret (v := .tuple #[.agg #[.int .i64 0, .int .i64 0, .int .i64 0, .int .i64 0, .string ⟨#[]⟩], .bool false]) (by simp [results, Try.results61, go_sem, bx0_0, bx0_1, bx0_2, bx0_3, bx0_4]) rfl ?_
        exact ⟨rfl, k3⟩
      · have hT := fun u => implGet16_c s 12 u hs ⟨by decide, by decide⟩
        obtain ⟨T, hTT⟩ : ∃ T, g16 s 12 = T := ⟨_, rfl⟩
        rw [hTT] at h12
        simp only [hTT] at hT
        have hBs : (s.extract 14 s.size).size < 46 := by rw [ByteArray.size_extract]; omega
        have hok0 : okE s = false := by rw [okE, decide_eq_false (by omega)]; rfl
        rw [hok0]
        simp only [ethI_no hok0, ethT_no hok0]
        obtain ⟨B, hB⟩ : ∃ B, s.extract 14 s.size = B := ⟨_, rfl⟩
        have hBs2 : B.size < 46 := by rw [← hB]; exact hBs
        have heq : ethB D S (-1) T B = false := by simp [ethB, inB]; omega
        have hEO := fun u => implEthOk_c D S (-1) T B u (by omega)
        simp only [heq] at hEO
        have hok := fun u => calls_bool (hEO u) rfl
        clear hEO
        clear hBs
        go_enter Try.func61, Try.ntmps61
        go_wp2_with fail
        have k0 : Below w.heap.size w (w.alloc (.cells #[.int .i64 0, .int .i64 0, .int .i64 0, .int .i64 0, .string ⟨#[]⟩] 99)) := by go_grown
        have bl0 : w.heap.size < (w.alloc (.cells #[.int .i64 0, .int .i64 0, .int .i64 0, .int .i64 0, .string ⟨#[]⟩] 99)).heap.size := by go_size
        have hk0 : Blk (w.alloc (.cells #[.int .i64 0, .int .i64 0, .int .i64 0, .int .i64 0, .string ⟨#[]⟩] 99)) (w.heap.size) 99 [.int .i64 0, .int .i64 0, .int .i64 0, .int .i64 0, .string ⟨#[]⟩] := by simpa using Blk.new w 99 [.int .i64 0, .int .i64 0, .int .i64 0, .int .i64 0, .string ⟨#[]⟩]
        have p0 := k0.size
        generalize hW0 : (w.alloc (.cells #[.int .i64 0, .int .i64 0, .int .i64 0, .int .i64 0, .string ⟨#[]⟩] 99)) = w0 at *
        clear hW0
        have hBB : w.heap.size ≤ w0.heap.size := by omega
        refine wp_region_slotsS (w.heap.size) [(9, fun _ v => v = .string s), (10, fun _ v => v = .int .i64 (g16 s 0)), (11, fun _ v => v = .int .i64 (g16 s 0 * 4294967296)), (12, fun _ v => v = .string s), (13, fun _ v => v = .int .i64 (g32 s 2)), (14, fun _ v => v = .int .i64 D), (15, fun _ v => v = .string s), (16, fun _ v => v = .int .i64 (g16 s 6)), (17, fun _ v => v = .int .i64 (g16 s 6 * 4294967296)), (18, fun _ v => v = .string s), (19, fun _ v => v = .int .i64 (g32 s 8)), (20, fun _ v => v = .int .i64 S), (21, fun _ v => v = .string s), (22, fun _ v => v = .int .i64 T), (23, fun _ v => v = .string s), (24, fun _ v => v = .string B), (25, fun _ v => v = .agg #[.int .i64 D, .int .i64 S, .int .i64 (-1), .int .i64 T, .string B]), (4, BoxP w0.heap.size 99 5)] [⟨18, 4, fun _ => True, StoP w0.heap.size 99 [.int .i64 D, .int .i64 S, .int .i64 (-1), .int .i64 T, .string B]⟩] (fun u => Blk u (w.heap.size) 99 [.int .i64 0, .int .i64 0, .int .i64 0, .int .i64 0, .string ⟨#[]⟩]) (by kernel_rfl) hBB (by kernel_rfl) (by kernel_rfl) (by kernel_rfl) (by kernel_rfl) ?_ ?_ ?_ ?_ ?_ ?_ ?_
        · intro p hp
          simp only [List.mem_cons, List.not_mem_nil, or_false] at hp
          rcases hp with rfl | rfl | rfl | rfl | rfl | rfl | rfl | rfl | rfl | rfl | rfl | rfl | rfl | rfl | rfl | rfl | rfl | rfl
          all_goals (intro u u' v hb hv; first | exact hv | exact BoxP.keep hv hb | exact RowP.keep hv hb)
        · intro s hs u u' hb
          simp only [List.mem_cons, List.not_mem_nil, or_false] at hs
          rcases hs with rfl
          all_goals (refine ⟨fun h => ?_, fun _ h => ?_⟩ <;> first | exact h | exact StoP.keep h hb | exact StoR.keep h hb | exact Blk.ext h hb | exact StaR.keep h hb)
        · intro s hs
          simp only [List.mem_cons, List.not_mem_nil, or_false] at hs
          rcases hs with rfl
          all_goals first | trivial
        · exact hk0
        · intro u u' hb hj
          have j0 := hj
          exact (j0.ext hb)
        · intro hGk hSk hJk
          refine allStep_cons (stepS_plain hGk hSk hBB hJk (by kernel_rfl) rfl ?_) ?_
          · intro a u hb hz hj hl hp K Q hK
            have e0 : a.tmps[0]?.getD undef = .string s := gd (hl 0 (by kernel_rfl))
            go_simp
            exact hK _ _ (Below.refl _ _) (by intro d hd; cases hd; exact rfl)
          refine allStep_cons (stepS_plain hGk hSk hBB hJk (by kernel_rfl) rfl ?_) ?_
          · intro a u hb hz hj hl hp K Q hK
            have e9 : a.tmps[9]?.getD undef = .string s := gd (hl 9 (by kernel_rfl))
            go_simp
            refine (implGet16_c s 0 _ hs ⟨by decide, by decide⟩).mono ?_
            rintro e u1 ⟨rfl, hb1⟩
            exact hK _ _ hb1 (by intro d hd; cases hd; exact rfl)
          refine allStep_cons (stepS_plain hGk hSk hBB hJk (by kernel_rfl) rfl ?_) ?_
          · intro a u hb hz hj hl hp K Q hK
            have e10 : a.tmps[10]?.getD undef = .int .i64 (g16 s 0) := gd (hl 10 (by kernel_rfl))
            go_simp
            exact hK _ _ (Below.refl _ _) (by intro d hd; cases hd; exact rfl)
          refine allStep_cons (stepS_plain hGk hSk hBB hJk (by kernel_rfl) rfl ?_) ?_
          · intro a u hb hz hj hl hp K Q hK
            have e0 : a.tmps[0]?.getD undef = .string s := gd (hl 0 (by kernel_rfl))
            go_simp
            exact hK _ _ (Below.refl _ _) (by intro d hd; cases hd; exact rfl)
          refine allStep_cons (stepS_plain hGk hSk hBB hJk (by kernel_rfl) rfl ?_) ?_
          · intro a u hb hz hj hl hp K Q hK
            have e12 : a.tmps[12]?.getD undef = .string s := gd (hl 12 (by kernel_rfl))
            go_simp
            refine (implGet32_c s 2 _ hs ⟨by decide, by decide⟩).mono ?_
            rintro e u1 ⟨rfl, hb1⟩
            exact hK _ _ hb1 (by intro d hd; cases hd; exact rfl)
          refine allStep_cons (stepS_plain hGk hSk hBB hJk (by kernel_rfl) rfl ?_) ?_
          · intro a u hb hz hj hl hp K Q hK
            have e11 : a.tmps[11]?.getD undef = .int .i64 (g16 s 0 * 4294967296) := gd (hl 11 (by kernel_rfl))
            have e13 : a.tmps[13]?.getD undef = .int .i64 (g32 s 2) := gd (hl 13 (by kernel_rfl))
            go_simp
            exact hK _ _ (Below.refl _ _) (by intro d hd; cases hd; exact rfl)
          refine allStep_cons (stepS_plain hGk hSk hBB hJk (by kernel_rfl) rfl ?_) ?_
          · intro a u hb hz hj hl hp K Q hK
            have e0 : a.tmps[0]?.getD undef = .string s := gd (hl 0 (by kernel_rfl))
            go_simp
            exact hK _ _ (Below.refl _ _) (by intro d hd; cases hd; exact rfl)
          refine allStep_cons (stepS_plain hGk hSk hBB hJk (by kernel_rfl) rfl ?_) ?_
          · intro a u hb hz hj hl hp K Q hK
            have e15 : a.tmps[15]?.getD undef = .string s := gd (hl 15 (by kernel_rfl))
            go_simp
            refine (implGet16_c s 6 _ hs ⟨by decide, by decide⟩).mono ?_
            rintro e u1 ⟨rfl, hb1⟩
            exact hK _ _ hb1 (by intro d hd; cases hd; exact rfl)
          refine allStep_cons (stepS_plain hGk hSk hBB hJk (by kernel_rfl) rfl ?_) ?_
          · intro a u hb hz hj hl hp K Q hK
            have e16 : a.tmps[16]?.getD undef = .int .i64 (g16 s 6) := gd (hl 16 (by kernel_rfl))
            go_simp
            exact hK _ _ (Below.refl _ _) (by intro d hd; cases hd; exact rfl)
          refine allStep_cons (stepS_plain hGk hSk hBB hJk (by kernel_rfl) rfl ?_) ?_
          · intro a u hb hz hj hl hp K Q hK
            have e0 : a.tmps[0]?.getD undef = .string s := gd (hl 0 (by kernel_rfl))
            go_simp
            exact hK _ _ (Below.refl _ _) (by intro d hd; cases hd; exact rfl)
          refine allStep_cons (stepS_plain hGk hSk hBB hJk (by kernel_rfl) rfl ?_) ?_
          · intro a u hb hz hj hl hp K Q hK
            have e18 : a.tmps[18]?.getD undef = .string s := gd (hl 18 (by kernel_rfl))
            go_simp
            refine (implGet32_c s 8 _ hs ⟨by decide, by decide⟩).mono ?_
            rintro e u1 ⟨rfl, hb1⟩
            exact hK _ _ hb1 (by intro d hd; cases hd; exact rfl)
          refine allStep_cons (stepS_plain hGk hSk hBB hJk (by kernel_rfl) rfl ?_) ?_
          · intro a u hb hz hj hl hp K Q hK
            have e17 : a.tmps[17]?.getD undef = .int .i64 (g16 s 6 * 4294967296) := gd (hl 17 (by kernel_rfl))
            have e19 : a.tmps[19]?.getD undef = .int .i64 (g32 s 8) := gd (hl 19 (by kernel_rfl))
            go_simp
            exact hK _ _ (Below.refl _ _) (by intro d hd; cases hd; exact rfl)
          refine allStep_cons (stepS_plain hGk hSk hBB hJk (by kernel_rfl) rfl ?_) ?_
          · intro a u hb hz hj hl hp K Q hK
            have e0 : a.tmps[0]?.getD undef = .string s := gd (hl 0 (by kernel_rfl))
            go_simp
            exact hK _ _ (Below.refl _ _) (by intro d hd; cases hd; exact rfl)
          refine allStep_cons (stepS_plain hGk hSk hBB hJk (by kernel_rfl) rfl ?_) ?_
          · intro a u hb hz hj hl hp K Q hK
            have e21 : a.tmps[21]?.getD undef = .string s := gd (hl 21 (by kernel_rfl))
            go_simp
            refine (hT _).mono ?_
            rintro e u1 ⟨rfl, hb1⟩
            exact hK _ _ hb1 (by intro d hd; cases hd; exact rfl)
          refine allStep_cons (stepS_plain hGk hSk hBB hJk (by kernel_rfl) rfl ?_) ?_
          · intro a u hb hz hj hl hp K Q hK
            have e0 : a.tmps[0]?.getD undef = .string s := gd (hl 0 (by kernel_rfl))
            go_simp
            exact hK _ _ (Below.refl _ _) (by intro d hd; cases hd; exact rfl)
          refine allStep_cons (stepS_plain hGk hSk hBB hJk (by kernel_rfl) rfl ?_) ?_
          · intro a u hb hz hj hl hp K Q hK
            have e23 : a.tmps[23]?.getD undef = .string s := gd (hl 23 (by kernel_rfl))
            go_simp
            exact hK _ _ (Below.refl _ _) (by intro d hd; cases hd; exact rfl)
          refine allStep_cons (stepS_plain hGk hSk hBB hJk (by kernel_rfl) rfl ?_) ?_
          · intro a u hb hz hj hl hp K Q hK
            have e14 : a.tmps[14]?.getD undef = .int .i64 D := gd (hl 14 (by kernel_rfl))
            have e20 : a.tmps[20]?.getD undef = .int .i64 S := gd (hl 20 (by kernel_rfl))
            have e22 : a.tmps[22]?.getD undef = .int .i64 T := gd (hl 22 (by kernel_rfl))
            have e24 : a.tmps[24]?.getD undef = .string B := gd (hl 24 (by kernel_rfl))
            go_simp
            exact hK _ _ (Below.refl _ _) (by intro d hd; cases hd; exact rfl)
          refine allStep_cons (stepS_plain hGk hSk hBB hJk (by kernel_rfl) rfl ?_) ?_
          · intro a u hb hz hj hl hp K Q hK
            go_simp
            exact hK _ _ (by go_grown) (by intro d hd; cases hd; exact BoxP.new _ _ [.int .i64 0, .int .i64 0, .int .i64 0, .int .i64 0, .string ⟨#[]⟩] (by omega) rfl)
          refine allStep_cons (stepS_store (Chg w0.heap.size 99) (fun _ _ hc hb => hc.below' (by omega) hb) (fun _ _ hc => hc.size) (hold_rel ?_) ?_ ?_ rfl rfl ?_) ?_
          · intro p hp
            simp only [List.mem_cons, List.not_mem_nil, or_false] at hp
            rcases hp with rfl | rfl | rfl | rfl | rfl | rfl | rfl | rfl | rfl | rfl | rfl | rfl | rfl | rfl | rfl | rfl | rfl | rfl
            all_goals (intro u u' v hb hv; first | exact hv | exact BoxP.chg hv hb | exact RowP.chg hv hb (by decide))
          · intro s hs hne u u' hb
            simp only [List.mem_cons, List.not_mem_nil, or_false] at hs
            rcases hs with rfl
            all_goals first | exact absurd (by rfl) hne | (refine ⟨fun h => ?_, fun _ h => ?_⟩ <;> first | exact h | exact StoP.chg h hb (by decide) | exact StoR.chg h hb (by decide) (by decide) | exact Blk.chgL h hb (by omega) | exact StaR.chgL h hb (by omega) (by decide))
          · intro u u' hb hj
            have j0 := hj
            exact (j0.chgL hb (by omega))
          · intro a u hb hz hj hl hp K Q hK
            obtain ⟨b, exb, hB, zs, hzl, hbk⟩ : BoxP w0.heap.size 99 5 u (a.tmps.getD 4 undef) := hl 4 (by kernel_rfl)
            have e4 := gd exb
            have e25 : a.tmps[25]?.getD undef = .agg #[.int .i64 D, .int .i64 S, .int .i64 (-1), .int .i64 T, .string B] := gd (hl 25 (by kernel_rfl))
            obtain ⟨z0, z1, z2, z3, z4, rfl⟩ : ∃ z0 z1 z2 z3 z4, zs = [z0, z1, z2, z3, z4] := (by match zs, hzl with | [z0, z1, z2, z3, z4], _ => exact ⟨_, _, _, _, _, rfl⟩)
            have hlt := hbk.lt
            have g0 : u.cell? ⟨b, 0, none⟩ = some z0 := (hbk.cell 0).trans rfl
            have f0 := hbk.frozen 0
            have g1 : u.cell? ⟨b, 1, none⟩ = some z1 := (hbk.cell 1).trans rfl
            have f1 := hbk.frozen 1
            have g2 : u.cell? ⟨b, 2, none⟩ = some z2 := (hbk.cell 2).trans rfl
            have f2 := hbk.frozen 2
            have g3 : u.cell? ⟨b, 3, none⟩ = some z3 := (hbk.cell 3).trans rfl
            have f3 := hbk.frozen 3
            have g4 : u.cell? ⟨b, 4, none⟩ = some z4 := (hbk.cell 4).trans rfl
            have f4 := hbk.frozen 4
            go_simp
            refine hK undef _ ((((((Chg.refl _ _ _).set hbk hB 0 _).set (hbk.set_ 0 _) hB 1 _).set ((hbk.set_ 0 _).set_ 1 _) hB 2 _).set (((hbk.set_ 0 _).set_ 1 _).set_ 2 _) hB 3 _).set ((((hbk.set_ 0 _).set_ 1 _).set_ 2 _).set_ 3 _) hB 4 _) (fun s hs he => ?_)
            simp only [List.mem_cons, List.not_mem_nil, or_false] at hs
            rcases hs with rfl
            · exact ⟨b, exb, hB, (((((hbk.set_ 0 _).set_ 1 _).set_ 2 _).set_ 3 _).set_ 4 _)⟩
          exact allStep_nil
        intro xT w1 hb hz hj hL hSt
        clear hk0
        have hk0 : (fun u => Blk u (w.heap.size) 99 [.int .i64 0, .int .i64 0, .int .i64 0, .int .i64 0, .string ⟨#[]⟩]) w1 := hj
        dsimp only at hk0
        obtain ⟨bk_1, fx4, lo1, hk1⟩ : StoP w0.heap.size 99 [.int .i64 D, .int .i64 S, .int .i64 (-1), .int .i64 T, .string B] w1 (xT 4) := hSt _ (List.mem_of_getElem? (i := 0) rfl)
        simp only [List.map, putAll, fx4]
        have bl1 := hk1.lt
        have k1 : Below w.heap.size w w1 := k0.trans hb
        have p1 : w0.heap.size ≤ w1.heap.size := hb.size
        have bl0 := Nat.lt_of_lt_of_le bl0 hb.size
        clear hL hSt hb hz fx4
        have bx1_0 := hk1.at_ 0 _ rfl
        have bx1_1 := hk1.at_ 1 _ rfl
        have bx1_2 := hk1.at_ 2 _ rfl
        have bx1_3 := hk1.at_ 3 _ rfl
        have bx1_4 := hk1.at_ 4 _ rfl
        go_wp2_with fail
        refine (hok _).mono ?_
        rintro e w2 ⟨rfl, hb⟩
        have k2 : Below w.heap.size w w2 := ext_step k1 (by omega) hb
        have p2 := hb.size
        replace hk0 := hk0.ext hb
        replace hk1 := hk1.ext hb
        clear bx1_0 bx1_1 bx1_2 bx1_3 bx1_4
        have bl0 := Nat.lt_of_lt_of_le bl0 hb.size
        have bl1 := Nat.lt_of_lt_of_le bl1 hb.size
        clear hb
        clear  hk1
        have bx0_0 := hk0.at_ 0 _ rfl
        have fz0_0 := hk0.frozen 0
        have bx0_1 := hk0.at_ 1 _ rfl
        have fz0_1 := hk0.frozen 1
        have bx0_2 := hk0.at_ 2 _ rfl
        have fz0_2 := hk0.frozen 2
        have bx0_3 := hk0.at_ 3 _ rfl
        have fz0_3 := hk0.frozen 3
        have bx0_4 := hk0.at_ 4 _ rfl
        have fz0_4 := hk0.frozen 4
        go_wp2_with fail
        have hcc := ChgA.refl (w.heap.size) w2
        obtain ⟨w3_0, hW0⟩ : ∃ W, W = w2.setCell ⟨w.heap.size, 0, none⟩ (.int .i64 0) := ⟨_, rfl⟩
        replace hcc : ChgA (w.heap.size) w2 w3_0 := by rw [hW0]; exact hcc.set _ _
        replace hk0 : Blk w3_0 (w.heap.size) 99 [.int .i64 0, .int .i64 0, .int .i64 0, .int .i64 0, .string ⟨#[]⟩] := by rw [hW0]; exact hk0.set_ 0 _
        rw [← hW0]
        clear hW0
        obtain ⟨w3_1, hW0⟩ : ∃ W, W = w3_0.setCell ⟨w.heap.size, 1, none⟩ (.int .i64 0) := ⟨_, rfl⟩
        replace hcc : ChgA (w.heap.size) w2 w3_1 := by rw [hW0]; exact hcc.set _ _
        replace hk0 : Blk w3_1 (w.heap.size) 99 [.int .i64 0, .int .i64 0, .int .i64 0, .int .i64 0, .string ⟨#[]⟩] := by rw [hW0]; exact hk0.set_ 1 _
        rw [← hW0]
        clear hW0
        obtain ⟨w3_2, hW0⟩ : ∃ W, W = w3_1.setCell ⟨w.heap.size, 2, none⟩ (.int .i64 0) := ⟨_, rfl⟩
        replace hcc : ChgA (w.heap.size) w2 w3_2 := by rw [hW0]; exact hcc.set _ _
        replace hk0 : Blk w3_2 (w.heap.size) 99 [.int .i64 0, .int .i64 0, .int .i64 0, .int .i64 0, .string ⟨#[]⟩] := by rw [hW0]; exact hk0.set_ 2 _
        rw [← hW0]
        clear hW0
        obtain ⟨w3_3, hW0⟩ : ∃ W, W = w3_2.setCell ⟨w.heap.size, 3, none⟩ (.int .i64 0) := ⟨_, rfl⟩
        replace hcc : ChgA (w.heap.size) w2 w3_3 := by rw [hW0]; exact hcc.set _ _
        replace hk0 : Blk w3_3 (w.heap.size) 99 [.int .i64 0, .int .i64 0, .int .i64 0, .int .i64 0, .string ⟨#[]⟩] := by rw [hW0]; exact hk0.set_ 3 _
        rw [← hW0]
        clear hW0
        obtain ⟨w3, hW0⟩ : ∃ W, W = w3_3.setCell ⟨w.heap.size, 4, none⟩ (.string ⟨#[]⟩) := ⟨_, rfl⟩
        replace hcc : ChgA (w.heap.size) w2 w3 := by rw [hW0]; exact hcc.set _ _
        replace hk0 : Blk w3 (w.heap.size) 99 [.int .i64 0, .int .i64 0, .int .i64 0, .int .i64 0, .string ⟨#[]⟩] := by rw [hW0]; exact hk0.set_ 4 _
        rw [← hW0]
        clear hW0
        have hc := hcc
        have k3 := hc.below (by omega) k2
        have p3 := hc.size
        replace bl0 := Nat.lt_of_lt_of_le bl0 (Nat.le_of_eq p3.symm)
        replace bl1 := Nat.lt_of_lt_of_le bl1 (Nat.le_of_eq p3.symm)
        clear hc hcc
        clear bx0_0 fz0_0 bx0_1 fz0_1 bx0_2 fz0_2 bx0_3 fz0_3 bx0_4 fz0_4
        have bx0_0 := hk0.at_ 0 _ rfl
        have bx0_1 := hk0.at_ 1 _ rfl
        have bx0_2 := hk0.at_ 2 _ rfl
        have bx0_3 := hk0.at_ 3 _ rfl
        have bx0_4 := hk0.at_ 4 _ rfl
        refine bodyPost_ret (v := .tuple #[.agg #[.int .i64 0, .int .i64 0, .int .i64 0, .int .i64 0, .string ⟨#[]⟩], .bool false]) (by simp [results, Try.results61, go_sem, bx0_0, bx0_1, bx0_2, bx0_3, bx0_4]) rfl ?_
        exact ⟨rfl, k3⟩
    · have l14 : (14 : Int) ≤ (s.size : Int) := by omega
      have l18 : (18 : Int) ≤ (s.size : Int) := by omega
      have y0 := g16_nn (s := s) (a := 0) (hasI (by omega) (by omega))
      have y1 := g32_nn (s := s) (a := 2) (hasI (by omega) (by omega))
      have y2 := g16_nn (s := s) (a := 6) (hasI (by omega) (by omega))
      have y3 := g32_nn (s := s) (a := 8) (hasI (by omega) (by omega))
      have b0 := g16_bd s 0
      have b1 := g32_bd s 2
      have b2 := g16_bd s 6
      have b3 := g32_bd s 8
      have hD := bits_or (a := g16 s 0 * 4294967296) (b := g32 s 2) (q := g16 s 0) (p := 4294967296) 32 (by decide) rfl y0 y1 (by omega) (by omega)
      have hS := bits_or (a := g16 s 6 * 4294967296) (b := g32 s 8) (q := g16 s 6) (p := 4294967296) 32 (by decide) rfl y2 y3 (by omega) (by omega)
      obtain ⟨D, hDD⟩ : ∃ D, g16 s 0 * 4294967296 + g32 s 2 = D := ⟨_, rfl⟩
      obtain ⟨S, hSS⟩ : ∃ S, g16 s 6 * 4294967296 + g32 s 8 = S := ⟨_, rfl⟩
      have d1 : dstE s = D := hDD
      have d2 : srcE s = S := hSS
      rw [hDD] at hD
      rw [hSS] at hS
      have ew0 : IntKind.i64.wrap (g16 s 0 * 4294967296) = g16 s 0 * 4294967296 := IntWalk.i64_in _ ⟨by omega, by omega⟩
      have ew1 : IntKind.i64.wrap (g16 s 6 * 4294967296) = g16 s 6 * 4294967296 := IntWalk.i64_in _ ⟨by omega, by omega⟩
      by_cases h12 : g16 s 12 = 33024
      · have hT := fun u => implGet16_c s 12 u hs ⟨by decide, by decide⟩
        simp only [h12] at hT
        have hv := fun u => implGet16_c s 14 u hs ⟨by decide, by decide⟩
        have hT2 := fun u => implGet16_c s 16 u hs ⟨by decide, by decide⟩
        have d3 : vlE s = g16 s 14 := by rw [vlE, if_pos h12]
        have d4 : tyE s = g16 s 16 := by rw [tyE, if_pos h12]
        have d5 : bdE s = s.extract 18 s.size := by rw [bdE, atN, if_pos h12]
        obtain ⟨V, hV⟩ : ∃ V, g16 s 14 = V := ⟨_, rfl⟩
        obtain ⟨T, hTT⟩ : ∃ T, g16 s 16 = T := ⟨_, rfl⟩
        simp only [hV] at hv d3
        simp only [hTT] at hT2 d4
        have hBs : (s.extract 18 s.size).size ≤ 1048576 := by rw [ByteArray.size_extract]; omega
        obtain ⟨B, hB⟩ : ∃ B, s.extract 18 s.size = B := ⟨_, rfl⟩
        rw [hB] at d5 hBs
        rw [d5]
        have heq : ethB D S V T B = okE s := by rw [okE, d1, d2, d3, d4, d5, decide_eq_true (by omega), Bool.true_and]
        cases hok0 : okE s
        · rw [hok0] at heq
          simp only [ethI_no hok0, ethT_no hok0, d1, d2, d3, d4]
          have hEO := fun u => implEthOk_c D S V T B u (by omega)
          simp only [heq] at hEO
          have hok := fun u => calls_bool (hEO u) rfl
          clear hEO
          go_enter Try.func61, Try.ntmps61
          go_wp2_with fail
          have k0 : Below w.heap.size w (w.alloc (.cells #[.int .i64 0, .int .i64 0, .int .i64 0, .int .i64 0, .string ⟨#[]⟩] 99)) := by go_grown
          have bl0 : w.heap.size < (w.alloc (.cells #[.int .i64 0, .int .i64 0, .int .i64 0, .int .i64 0, .string ⟨#[]⟩] 99)).heap.size := by go_size
          have hk0 : Blk (w.alloc (.cells #[.int .i64 0, .int .i64 0, .int .i64 0, .int .i64 0, .string ⟨#[]⟩] 99)) (w.heap.size) 99 [.int .i64 0, .int .i64 0, .int .i64 0, .int .i64 0, .string ⟨#[]⟩] := by simpa using Blk.new w 99 [.int .i64 0, .int .i64 0, .int .i64 0, .int .i64 0, .string ⟨#[]⟩]
          have p0 := k0.size
          generalize hW0 : (w.alloc (.cells #[.int .i64 0, .int .i64 0, .int .i64 0, .int .i64 0, .string ⟨#[]⟩] 99)) = w0 at *
          clear hW0
          have hBB : w.heap.size ≤ w0.heap.size := by omega
          refine wp_region_slotsS (w.heap.size) [(9, fun _ v => v = .string s), (10, fun _ v => v = .int .i64 (g16 s 0)), (11, fun _ v => v = .int .i64 (g16 s 0 * 4294967296)), (12, fun _ v => v = .string s), (13, fun _ v => v = .int .i64 (g32 s 2)), (14, fun _ v => v = .int .i64 D), (15, fun _ v => v = .string s), (16, fun _ v => v = .int .i64 (g16 s 6)), (17, fun _ v => v = .int .i64 (g16 s 6 * 4294967296)), (18, fun _ v => v = .string s), (19, fun _ v => v = .int .i64 (g32 s 8)), (20, fun _ v => v = .int .i64 S), (21, fun _ v => v = .string s), (22, fun _ v => v = .int .i64 33024), (23, fun _ v => v = .string s), (24, fun _ v => v = .string (s.extract 14 s.size)), (25, fun _ v => v = .agg #[.int .i64 D, .int .i64 S, .int .i64 (-1), .int .i64 33024, .string (s.extract 14 s.size)]), (4, BoxP w0.heap.size 99 5)] [⟨18, 4, fun _ => True, StoP w0.heap.size 99 [.int .i64 D, .int .i64 S, .int .i64 (-1), .int .i64 33024, .string (s.extract 14 s.size)]⟩] (fun u => Blk u (w.heap.size) 99 [.int .i64 0, .int .i64 0, .int .i64 0, .int .i64 0, .string ⟨#[]⟩]) (by kernel_rfl) hBB (by kernel_rfl) (by kernel_rfl) (by kernel_rfl) (by kernel_rfl) ?_ ?_ ?_ ?_ ?_ ?_ ?_
          · intro p hp
            simp only [List.mem_cons, List.not_mem_nil, or_false] at hp
            rcases hp with rfl | rfl | rfl | rfl | rfl | rfl | rfl | rfl | rfl | rfl | rfl | rfl | rfl | rfl | rfl | rfl | rfl | rfl
            all_goals (intro u u' v hb hv; first | exact hv | exact BoxP.keep hv hb | exact RowP.keep hv hb)
          · intro s hs u u' hb
            simp only [List.mem_cons, List.not_mem_nil, or_false] at hs
            rcases hs with rfl
            all_goals (refine ⟨fun h => ?_, fun _ h => ?_⟩ <;> first | exact h | exact StoP.keep h hb | exact StoR.keep h hb | exact Blk.ext h hb | exact StaR.keep h hb)
          · intro s hs
            simp only [List.mem_cons, List.not_mem_nil, or_false] at hs
            rcases hs with rfl
            all_goals first | trivial
          · exact hk0
          · intro u u' hb hj
            have j0 := hj
            exact (j0.ext hb)
          · intro hGk hSk hJk
            refine allStep_cons (stepS_plain hGk hSk hBB hJk (by kernel_rfl) rfl ?_) ?_
            · intro a u hb hz hj hl hp K Q hK
              have e0 : a.tmps[0]?.getD undef = .string s := gd (hl 0 (by kernel_rfl))
              go_simp
              exact hK _ _ (Below.refl _ _) (by intro d hd; cases hd; exact rfl)
            refine allStep_cons (stepS_plain hGk hSk hBB hJk (by kernel_rfl) rfl ?_) ?_
            · intro a u hb hz hj hl hp K Q hK
              have e9 : a.tmps[9]?.getD undef = .string s := gd (hl 9 (by kernel_rfl))
              go_simp
              refine (implGet16_c s 0 _ hs ⟨by decide, by decide⟩).mono ?_
              rintro e u1 ⟨rfl, hb1⟩
              exact hK _ _ hb1 (by intro d hd; cases hd; exact rfl)
            refine allStep_cons (stepS_plain hGk hSk hBB hJk (by kernel_rfl) rfl ?_) ?_
            · intro a u hb hz hj hl hp K Q hK
              have e10 : a.tmps[10]?.getD undef = .int .i64 (g16 s 0) := gd (hl 10 (by kernel_rfl))
              go_simp
              exact hK _ _ (Below.refl _ _) (by intro d hd; cases hd; exact rfl)
            refine allStep_cons (stepS_plain hGk hSk hBB hJk (by kernel_rfl) rfl ?_) ?_
            · intro a u hb hz hj hl hp K Q hK
              have e0 : a.tmps[0]?.getD undef = .string s := gd (hl 0 (by kernel_rfl))
              go_simp
              exact hK _ _ (Below.refl _ _) (by intro d hd; cases hd; exact rfl)
            refine allStep_cons (stepS_plain hGk hSk hBB hJk (by kernel_rfl) rfl ?_) ?_
            · intro a u hb hz hj hl hp K Q hK
              have e12 : a.tmps[12]?.getD undef = .string s := gd (hl 12 (by kernel_rfl))
              go_simp
              refine (implGet32_c s 2 _ hs ⟨by decide, by decide⟩).mono ?_
              rintro e u1 ⟨rfl, hb1⟩
              exact hK _ _ hb1 (by intro d hd; cases hd; exact rfl)
            refine allStep_cons (stepS_plain hGk hSk hBB hJk (by kernel_rfl) rfl ?_) ?_
            · intro a u hb hz hj hl hp K Q hK
              have e11 : a.tmps[11]?.getD undef = .int .i64 (g16 s 0 * 4294967296) := gd (hl 11 (by kernel_rfl))
              have e13 : a.tmps[13]?.getD undef = .int .i64 (g32 s 2) := gd (hl 13 (by kernel_rfl))
              go_simp
              exact hK _ _ (Below.refl _ _) (by intro d hd; cases hd; exact rfl)
            refine allStep_cons (stepS_plain hGk hSk hBB hJk (by kernel_rfl) rfl ?_) ?_
            · intro a u hb hz hj hl hp K Q hK
              have e0 : a.tmps[0]?.getD undef = .string s := gd (hl 0 (by kernel_rfl))
              go_simp
              exact hK _ _ (Below.refl _ _) (by intro d hd; cases hd; exact rfl)
            refine allStep_cons (stepS_plain hGk hSk hBB hJk (by kernel_rfl) rfl ?_) ?_
            · intro a u hb hz hj hl hp K Q hK
              have e15 : a.tmps[15]?.getD undef = .string s := gd (hl 15 (by kernel_rfl))
              go_simp
              refine (implGet16_c s 6 _ hs ⟨by decide, by decide⟩).mono ?_
              rintro e u1 ⟨rfl, hb1⟩
              exact hK _ _ hb1 (by intro d hd; cases hd; exact rfl)
            refine allStep_cons (stepS_plain hGk hSk hBB hJk (by kernel_rfl) rfl ?_) ?_
            · intro a u hb hz hj hl hp K Q hK
              have e16 : a.tmps[16]?.getD undef = .int .i64 (g16 s 6) := gd (hl 16 (by kernel_rfl))
              go_simp
              exact hK _ _ (Below.refl _ _) (by intro d hd; cases hd; exact rfl)
            refine allStep_cons (stepS_plain hGk hSk hBB hJk (by kernel_rfl) rfl ?_) ?_
            · intro a u hb hz hj hl hp K Q hK
              have e0 : a.tmps[0]?.getD undef = .string s := gd (hl 0 (by kernel_rfl))
              go_simp
              exact hK _ _ (Below.refl _ _) (by intro d hd; cases hd; exact rfl)
            refine allStep_cons (stepS_plain hGk hSk hBB hJk (by kernel_rfl) rfl ?_) ?_
            · intro a u hb hz hj hl hp K Q hK
              have e18 : a.tmps[18]?.getD undef = .string s := gd (hl 18 (by kernel_rfl))
              go_simp
              refine (implGet32_c s 8 _ hs ⟨by decide, by decide⟩).mono ?_
              rintro e u1 ⟨rfl, hb1⟩
              exact hK _ _ hb1 (by intro d hd; cases hd; exact rfl)
            refine allStep_cons (stepS_plain hGk hSk hBB hJk (by kernel_rfl) rfl ?_) ?_
            · intro a u hb hz hj hl hp K Q hK
              have e17 : a.tmps[17]?.getD undef = .int .i64 (g16 s 6 * 4294967296) := gd (hl 17 (by kernel_rfl))
              have e19 : a.tmps[19]?.getD undef = .int .i64 (g32 s 8) := gd (hl 19 (by kernel_rfl))
              go_simp
              exact hK _ _ (Below.refl _ _) (by intro d hd; cases hd; exact rfl)
            refine allStep_cons (stepS_plain hGk hSk hBB hJk (by kernel_rfl) rfl ?_) ?_
            · intro a u hb hz hj hl hp K Q hK
              have e0 : a.tmps[0]?.getD undef = .string s := gd (hl 0 (by kernel_rfl))
              go_simp
              exact hK _ _ (Below.refl _ _) (by intro d hd; cases hd; exact rfl)
            refine allStep_cons (stepS_plain hGk hSk hBB hJk (by kernel_rfl) rfl ?_) ?_
            · intro a u hb hz hj hl hp K Q hK
              have e21 : a.tmps[21]?.getD undef = .string s := gd (hl 21 (by kernel_rfl))
              go_simp
              refine (hT _).mono ?_
              rintro e u1 ⟨rfl, hb1⟩
              exact hK _ _ hb1 (by intro d hd; cases hd; exact rfl)
            refine allStep_cons (stepS_plain hGk hSk hBB hJk (by kernel_rfl) rfl ?_) ?_
            · intro a u hb hz hj hl hp K Q hK
              have e0 : a.tmps[0]?.getD undef = .string s := gd (hl 0 (by kernel_rfl))
              go_simp
              exact hK _ _ (Below.refl _ _) (by intro d hd; cases hd; exact rfl)
            refine allStep_cons (stepS_plain hGk hSk hBB hJk (by kernel_rfl) rfl ?_) ?_
            · intro a u hb hz hj hl hp K Q hK
              have e23 : a.tmps[23]?.getD undef = .string s := gd (hl 23 (by kernel_rfl))
              go_simp
              exact hK _ _ (Below.refl _ _) (by intro d hd; cases hd; exact rfl)
            refine allStep_cons (stepS_plain hGk hSk hBB hJk (by kernel_rfl) rfl ?_) ?_
            · intro a u hb hz hj hl hp K Q hK
              have e14 : a.tmps[14]?.getD undef = .int .i64 D := gd (hl 14 (by kernel_rfl))
              have e20 : a.tmps[20]?.getD undef = .int .i64 S := gd (hl 20 (by kernel_rfl))
              have e22 : a.tmps[22]?.getD undef = .int .i64 33024 := gd (hl 22 (by kernel_rfl))
              have e24 : a.tmps[24]?.getD undef = .string (s.extract 14 s.size) := gd (hl 24 (by kernel_rfl))
              go_simp
              exact hK _ _ (Below.refl _ _) (by intro d hd; cases hd; exact rfl)
            refine allStep_cons (stepS_plain hGk hSk hBB hJk (by kernel_rfl) rfl ?_) ?_
            · intro a u hb hz hj hl hp K Q hK
              go_simp
              exact hK _ _ (by go_grown) (by intro d hd; cases hd; exact BoxP.new _ _ [.int .i64 0, .int .i64 0, .int .i64 0, .int .i64 0, .string ⟨#[]⟩] (by omega) rfl)
            refine allStep_cons (stepS_store (Chg w0.heap.size 99) (fun _ _ hc hb => hc.below' (by omega) hb) (fun _ _ hc => hc.size) (hold_rel ?_) ?_ ?_ rfl rfl ?_) ?_
            · intro p hp
              simp only [List.mem_cons, List.not_mem_nil, or_false] at hp
              rcases hp with rfl | rfl | rfl | rfl | rfl | rfl | rfl | rfl | rfl | rfl | rfl | rfl | rfl | rfl | rfl | rfl | rfl | rfl
              all_goals (intro u u' v hb hv; first | exact hv | exact BoxP.chg hv hb | exact RowP.chg hv hb (by decide))
            · intro s hs hne u u' hb
              simp only [List.mem_cons, List.not_mem_nil, or_false] at hs
              rcases hs with rfl
              all_goals first | exact absurd (by rfl) hne | (refine ⟨fun h => ?_, fun _ h => ?_⟩ <;> first | exact h | exact StoP.chg h hb (by decide) | exact StoR.chg h hb (by decide) (by decide) | exact Blk.chgL h hb (by omega) | exact StaR.chgL h hb (by omega) (by decide))
            · intro u u' hb hj
              have j0 := hj
              exact (j0.chgL hb (by omega))
            · intro a u hb hz hj hl hp K Q hK
              obtain ⟨b, exb, hB, zs, hzl, hbk⟩ : BoxP w0.heap.size 99 5 u (a.tmps.getD 4 undef) := hl 4 (by kernel_rfl)
              have e4 := gd exb
              have e25 : a.tmps[25]?.getD undef = .agg #[.int .i64 D, .int .i64 S, .int .i64 (-1), .int .i64 33024, .string (s.extract 14 s.size)] := gd (hl 25 (by kernel_rfl))
              obtain ⟨z0, z1, z2, z3, z4, rfl⟩ : ∃ z0 z1 z2 z3 z4, zs = [z0, z1, z2, z3, z4] := (by match zs, hzl with | [z0, z1, z2, z3, z4], _ => exact ⟨_, _, _, _, _, rfl⟩)
              have hlt := hbk.lt
              have g0 : u.cell? ⟨b, 0, none⟩ = some z0 := (hbk.cell 0).trans rfl
              have f0 := hbk.frozen 0
              have g1 : u.cell? ⟨b, 1, none⟩ = some z1 := (hbk.cell 1).trans rfl
              have f1 := hbk.frozen 1
              have g2 : u.cell? ⟨b, 2, none⟩ = some z2 := (hbk.cell 2).trans rfl
              have f2 := hbk.frozen 2
              have g3 : u.cell? ⟨b, 3, none⟩ = some z3 := (hbk.cell 3).trans rfl
              have f3 := hbk.frozen 3
              have g4 : u.cell? ⟨b, 4, none⟩ = some z4 := (hbk.cell 4).trans rfl
              have f4 := hbk.frozen 4
              go_simp
              refine hK undef _ ((((((Chg.refl _ _ _).set hbk hB 0 _).set (hbk.set_ 0 _) hB 1 _).set ((hbk.set_ 0 _).set_ 1 _) hB 2 _).set (((hbk.set_ 0 _).set_ 1 _).set_ 2 _) hB 3 _).set ((((hbk.set_ 0 _).set_ 1 _).set_ 2 _).set_ 3 _) hB 4 _) (fun s hs he => ?_)
              simp only [List.mem_cons, List.not_mem_nil, or_false] at hs
              rcases hs with rfl
              · exact ⟨b, exb, hB, (((((hbk.set_ 0 _).set_ 1 _).set_ 2 _).set_ 3 _).set_ 4 _)⟩
            exact allStep_nil
          intro xT w1 hb hz hj hL hSt
          clear hk0
          have hk0 : (fun u => Blk u (w.heap.size) 99 [.int .i64 0, .int .i64 0, .int .i64 0, .int .i64 0, .string ⟨#[]⟩]) w1 := hj
          dsimp only at hk0
          obtain ⟨bk_1, fx4, lo1, hk1⟩ : StoP w0.heap.size 99 [.int .i64 D, .int .i64 S, .int .i64 (-1), .int .i64 33024, .string (s.extract 14 s.size)] w1 (xT 4) := hSt _ (List.mem_of_getElem? (i := 0) rfl)
          simp only [List.map, putAll, fx4]
          have bl1 := hk1.lt
          have k1 : Below w.heap.size w w1 := k0.trans hb
          have p1 : w0.heap.size ≤ w1.heap.size := hb.size
          have bl0 := Nat.lt_of_lt_of_le bl0 hb.size
          clear hL hSt hb hz fx4
          have bx1_3 := hk1.at_ 3 _ rfl
          go_wp2_with fail
          refine (hv _).mono ?_
          rintro e w2 ⟨rfl, hb⟩
          have k2 : Below w.heap.size w w2 := ext_step k1 (by omega) hb
          have p2 := hb.size
          replace hk0 := hk0.ext hb
          replace hk1 := hk1.ext hb
          clear bx1_3
          have bl0 := Nat.lt_of_lt_of_le bl0 hb.size
          have bl1 := Nat.lt_of_lt_of_le bl1 hb.size
          clear hb
          have bx1_2 := hk1.at_ 2 _ rfl
          have fz1_2 := hk1.frozen 2
          go_wp2_with fail
          have hc : ChgA (bk_1) w2 (w2.setCell ⟨bk_1, 2, none⟩ (.int .i64 V)) := (ChgA.refl _ _).set _ _
          have hko := hk1
          replace hk0 := hk0.chgA hc (by omega)
          replace hk1 : Blk (w2.setCell ⟨bk_1, 2, none⟩ (.int .i64 V)) (bk_1) 99 [.int .i64 D, .int .i64 S, .int .i64 V, .int .i64 33024, .string (s.extract 14 s.size)] := hk1.set_ 2 _
          have k3 : Below w.heap.size w (w2.setCell ⟨bk_1, 2, none⟩ (.int .i64 V)) := hc.below (by omega) k2
          have p3 : (w2.setCell ⟨bk_1, 2, none⟩ (.int .i64 V)).heap.size = w2.heap.size := hc.size
          have bl0 := Nat.lt_of_lt_of_le bl0 (Nat.le_of_eq p3.symm)
          have bl1 := Nat.lt_of_lt_of_le bl1 (Nat.le_of_eq p3.symm)
          generalize hW0 : (w2.setCell ⟨bk_1, 2, none⟩ (.int .i64 V)) = w3 at *
          clear hW0 hc hko
          clear bx1_2 fz1_2
          refine (hT2 _).mono ?_
          rintro e w4 ⟨rfl, hb⟩
          have k4 : Below w.heap.size w w4 := ext_step k3 (by omega) hb
          have p4 := hb.size
          replace hk0 := hk0.ext hb
          replace hk1 := hk1.ext hb
          have bl0 := Nat.lt_of_lt_of_le bl0 hb.size
          have bl1 := Nat.lt_of_lt_of_le bl1 hb.size
          clear hb
          have bx1_0 := hk1.at_ 0 _ rfl
          have fz1_0 := hk1.frozen 0
          have bx1_1 := hk1.at_ 1 _ rfl
          have fz1_1 := hk1.frozen 1
          have bx1_2 := hk1.at_ 2 _ rfl
          have fz1_2 := hk1.frozen 2
          have bx1_3 := hk1.at_ 3 _ rfl
          have fz1_3 := hk1.frozen 3
          have bx1_4 := hk1.at_ 4 _ rfl
          have fz1_4 := hk1.frozen 4
          go_wp2_with fail
          have hc : ChgA (bk_1) w4 (w4.setCell ⟨bk_1, 3, none⟩ (.int .i64 T)) := (ChgA.refl _ _).set _ _
          have hko := hk1
          replace hk0 := hk0.chgA hc (by omega)
          replace hk1 : Blk (w4.setCell ⟨bk_1, 3, none⟩ (.int .i64 T)) (bk_1) 99 [.int .i64 D, .int .i64 S, .int .i64 V, .int .i64 T, .string (s.extract 14 s.size)] := hk1.set_ 3 _
          have k5 : Below w.heap.size w (w4.setCell ⟨bk_1, 3, none⟩ (.int .i64 T)) := hc.below (by omega) k4
          have p5 : (w4.setCell ⟨bk_1, 3, none⟩ (.int .i64 T)).heap.size = w4.heap.size := hc.size
          have bl0 := Nat.lt_of_lt_of_le bl0 (Nat.le_of_eq p5.symm)
          have bl1 := Nat.lt_of_lt_of_le bl1 (Nat.le_of_eq p5.symm)
          generalize hW0 : (w4.setCell ⟨bk_1, 3, none⟩ (.int .i64 T)) = w5 at *
          clear hW0 hc hko
          clear bx1_0 fz1_0 bx1_1 fz1_1 bx1_2 fz1_2 bx1_3 fz1_3 bx1_4 fz1_4
          have hc : ChgA (bk_1) w5 (w5.setCell ⟨bk_1, 4, none⟩ (.string B)) := (ChgA.refl _ _).set _ _
          have hko := hk1
          replace hk0 := hk0.chgA hc (by omega)
          replace hk1 : Blk (w5.setCell ⟨bk_1, 4, none⟩ (.string B)) (bk_1) 99 [.int .i64 D, .int .i64 S, .int .i64 V, .int .i64 T, .string B] := hk1.set_ 4 _
          have k6 : Below w.heap.size w (w5.setCell ⟨bk_1, 4, none⟩ (.string B)) := hc.below (by omega) k5
          have p6 : (w5.setCell ⟨bk_1, 4, none⟩ (.string B)).heap.size = w5.heap.size := hc.size
          have bl0 := Nat.lt_of_lt_of_le bl0 (Nat.le_of_eq p6.symm)
          have bl1 := Nat.lt_of_lt_of_le bl1 (Nat.le_of_eq p6.symm)
          generalize hW0 : (w5.setCell ⟨bk_1, 4, none⟩ (.string B)) = w6 at *
          clear hW0 hc hko
          refine (hok _).mono ?_
          rintro e w7 ⟨rfl, hb⟩
          have k7 : Below w.heap.size w w7 := ext_step k6 (by omega) hb
          have p7 := hb.size
          replace hk0 := hk0.ext hb
          replace hk1 := hk1.ext hb
          have bl0 := Nat.lt_of_lt_of_le bl0 hb.size
          have bl1 := Nat.lt_of_lt_of_le bl1 hb.size
          clear hb
          clear  hk1
          have bx0_0 := hk0.at_ 0 _ rfl
          have fz0_0 := hk0.frozen 0
          have bx0_1 := hk0.at_ 1 _ rfl
          have fz0_1 := hk0.frozen 1
          have bx0_2 := hk0.at_ 2 _ rfl
          have fz0_2 := hk0.frozen 2
          have bx0_3 := hk0.at_ 3 _ rfl
          have fz0_3 := hk0.frozen 3
          have bx0_4 := hk0.at_ 4 _ rfl
          have fz0_4 := hk0.frozen 4
          go_wp2_with fail
          have hcc := ChgA.refl (w.heap.size) w7
          obtain ⟨w8_0, hW0⟩ : ∃ W, W = w7.setCell ⟨w.heap.size, 0, none⟩ (.int .i64 0) := ⟨_, rfl⟩
          replace hcc : ChgA (w.heap.size) w7 w8_0 := by rw [hW0]; exact hcc.set _ _
          replace hk0 : Blk w8_0 (w.heap.size) 99 [.int .i64 0, .int .i64 0, .int .i64 0, .int .i64 0, .string ⟨#[]⟩] := by rw [hW0]; exact hk0.set_ 0 _
          rw [← hW0]
          clear hW0
          obtain ⟨w8_1, hW0⟩ : ∃ W, W = w8_0.setCell ⟨w.heap.size, 1, none⟩ (.int .i64 0) := ⟨_, rfl⟩
          replace hcc : ChgA (w.heap.size) w7 w8_1 := by rw [hW0]; exact hcc.set _ _
          replace hk0 : Blk w8_1 (w.heap.size) 99 [.int .i64 0, .int .i64 0, .int .i64 0, .int .i64 0, .string ⟨#[]⟩] := by rw [hW0]; exact hk0.set_ 1 _
          rw [← hW0]
          clear hW0
          obtain ⟨w8_2, hW0⟩ : ∃ W, W = w8_1.setCell ⟨w.heap.size, 2, none⟩ (.int .i64 0) := ⟨_, rfl⟩
          replace hcc : ChgA (w.heap.size) w7 w8_2 := by rw [hW0]; exact hcc.set _ _
          replace hk0 : Blk w8_2 (w.heap.size) 99 [.int .i64 0, .int .i64 0, .int .i64 0, .int .i64 0, .string ⟨#[]⟩] := by rw [hW0]; exact hk0.set_ 2 _
          rw [← hW0]
          clear hW0
          obtain ⟨w8_3, hW0⟩ : ∃ W, W = w8_2.setCell ⟨w.heap.size, 3, none⟩ (.int .i64 0) := ⟨_, rfl⟩
          replace hcc : ChgA (w.heap.size) w7 w8_3 := by rw [hW0]; exact hcc.set _ _
          replace hk0 : Blk w8_3 (w.heap.size) 99 [.int .i64 0, .int .i64 0, .int .i64 0, .int .i64 0, .string ⟨#[]⟩] := by rw [hW0]; exact hk0.set_ 3 _
          rw [← hW0]
          clear hW0
          obtain ⟨w8, hW0⟩ : ∃ W, W = w8_3.setCell ⟨w.heap.size, 4, none⟩ (.string ⟨#[]⟩) := ⟨_, rfl⟩
          replace hcc : ChgA (w.heap.size) w7 w8 := by rw [hW0]; exact hcc.set _ _
          replace hk0 : Blk w8 (w.heap.size) 99 [.int .i64 0, .int .i64 0, .int .i64 0, .int .i64 0, .string ⟨#[]⟩] := by rw [hW0]; exact hk0.set_ 4 _
          rw [← hW0]
          clear hW0
          have hc := hcc
          have k8 := hc.below (by omega) k7
          have p8 := hc.size
          replace bl0 := Nat.lt_of_lt_of_le bl0 (Nat.le_of_eq p8.symm)
          replace bl1 := Nat.lt_of_lt_of_le bl1 (Nat.le_of_eq p8.symm)
          clear hc hcc
          clear bx0_0 fz0_0 bx0_1 fz0_1 bx0_2 fz0_2 bx0_3 fz0_3 bx0_4 fz0_4
          have bx0_0 := hk0.at_ 0 _ rfl
          have bx0_1 := hk0.at_ 1 _ rfl
          have bx0_2 := hk0.at_ 2 _ rfl
          have bx0_3 := hk0.at_ 3 _ rfl
          have bx0_4 := hk0.at_ 4 _ rfl
          refine bodyPost_ret (v := .tuple #[.agg #[.int .i64 0, .int .i64 0, .int .i64 0, .int .i64 0, .string ⟨#[]⟩], .bool false]) (by simp [results, Try.results61, go_sem, bx0_0, bx0_1, bx0_2, bx0_3, bx0_4]) rfl ?_
          exact ⟨rfl, k8⟩
        · rw [hok0] at heq
          simp only [ethI_yes hok0, ethT_yes hok0, d1, d2, d3, d4]
          have hEO := fun u => implEthOk_c D S V T B u (by omega)
          simp only [heq] at hEO
          have hok := fun u => calls_bool (hEO u) rfl
          clear hEO
          go_enter Try.func61, Try.ntmps61
          go_wp2_with fail
          have k0 : Below w.heap.size w (w.alloc (.cells #[.int .i64 0, .int .i64 0, .int .i64 0, .int .i64 0, .string ⟨#[]⟩] 99)) := by go_grown
          have bl0 : w.heap.size < (w.alloc (.cells #[.int .i64 0, .int .i64 0, .int .i64 0, .int .i64 0, .string ⟨#[]⟩] 99)).heap.size := by go_size
          have hk0 : Blk (w.alloc (.cells #[.int .i64 0, .int .i64 0, .int .i64 0, .int .i64 0, .string ⟨#[]⟩] 99)) (w.heap.size) 99 [.int .i64 0, .int .i64 0, .int .i64 0, .int .i64 0, .string ⟨#[]⟩] := by simpa using Blk.new w 99 [.int .i64 0, .int .i64 0, .int .i64 0, .int .i64 0, .string ⟨#[]⟩]
          have p0 := k0.size
          generalize hW0 : (w.alloc (.cells #[.int .i64 0, .int .i64 0, .int .i64 0, .int .i64 0, .string ⟨#[]⟩] 99)) = w0 at *
          clear hW0
          have hBB : w.heap.size ≤ w0.heap.size := by omega
          refine wp_region_slotsS (w.heap.size) [(9, fun _ v => v = .string s), (10, fun _ v => v = .int .i64 (g16 s 0)), (11, fun _ v => v = .int .i64 (g16 s 0 * 4294967296)), (12, fun _ v => v = .string s), (13, fun _ v => v = .int .i64 (g32 s 2)), (14, fun _ v => v = .int .i64 D), (15, fun _ v => v = .string s), (16, fun _ v => v = .int .i64 (g16 s 6)), (17, fun _ v => v = .int .i64 (g16 s 6 * 4294967296)), (18, fun _ v => v = .string s), (19, fun _ v => v = .int .i64 (g32 s 8)), (20, fun _ v => v = .int .i64 S), (21, fun _ v => v = .string s), (22, fun _ v => v = .int .i64 33024), (23, fun _ v => v = .string s), (24, fun _ v => v = .string (s.extract 14 s.size)), (25, fun _ v => v = .agg #[.int .i64 D, .int .i64 S, .int .i64 (-1), .int .i64 33024, .string (s.extract 14 s.size)]), (4, BoxP w0.heap.size 99 5)] [⟨18, 4, fun _ => True, StoP w0.heap.size 99 [.int .i64 D, .int .i64 S, .int .i64 (-1), .int .i64 33024, .string (s.extract 14 s.size)]⟩] (fun u => Blk u (w.heap.size) 99 [.int .i64 0, .int .i64 0, .int .i64 0, .int .i64 0, .string ⟨#[]⟩]) (by kernel_rfl) hBB (by kernel_rfl) (by kernel_rfl) (by kernel_rfl) (by kernel_rfl) ?_ ?_ ?_ ?_ ?_ ?_ ?_
          · intro p hp
            simp only [List.mem_cons, List.not_mem_nil, or_false] at hp
            rcases hp with rfl | rfl | rfl | rfl | rfl | rfl | rfl | rfl | rfl | rfl | rfl | rfl | rfl | rfl | rfl | rfl | rfl | rfl
            all_goals (intro u u' v hb hv; first | exact hv | exact BoxP.keep hv hb | exact RowP.keep hv hb)
          · intro s hs u u' hb
            simp only [List.mem_cons, List.not_mem_nil, or_false] at hs
            rcases hs with rfl
            all_goals (refine ⟨fun h => ?_, fun _ h => ?_⟩ <;> first | exact h | exact StoP.keep h hb | exact StoR.keep h hb | exact Blk.ext h hb | exact StaR.keep h hb)
          · intro s hs
            simp only [List.mem_cons, List.not_mem_nil, or_false] at hs
            rcases hs with rfl
            all_goals first | trivial
          · exact hk0
          · intro u u' hb hj
            have j0 := hj
            exact (j0.ext hb)
          · intro hGk hSk hJk
            refine allStep_cons (stepS_plain hGk hSk hBB hJk (by kernel_rfl) rfl ?_) ?_
            · intro a u hb hz hj hl hp K Q hK
              have e0 : a.tmps[0]?.getD undef = .string s := gd (hl 0 (by kernel_rfl))
              go_simp
              exact hK _ _ (Below.refl _ _) (by intro d hd; cases hd; exact rfl)
            refine allStep_cons (stepS_plain hGk hSk hBB hJk (by kernel_rfl) rfl ?_) ?_
            · intro a u hb hz hj hl hp K Q hK
              have e9 : a.tmps[9]?.getD undef = .string s := gd (hl 9 (by kernel_rfl))
              go_simp
              refine (implGet16_c s 0 _ hs ⟨by decide, by decide⟩).mono ?_
              rintro e u1 ⟨rfl, hb1⟩
              exact hK _ _ hb1 (by intro d hd; cases hd; exact rfl)
            refine allStep_cons (stepS_plain hGk hSk hBB hJk (by kernel_rfl) rfl ?_) ?_
            · intro a u hb hz hj hl hp K Q hK
              have e10 : a.tmps[10]?.getD undef = .int .i64 (g16 s 0) := gd (hl 10 (by kernel_rfl))
              go_simp
              exact hK _ _ (Below.refl _ _) (by intro d hd; cases hd; exact rfl)
            refine allStep_cons (stepS_plain hGk hSk hBB hJk (by kernel_rfl) rfl ?_) ?_
            · intro a u hb hz hj hl hp K Q hK
              have e0 : a.tmps[0]?.getD undef = .string s := gd (hl 0 (by kernel_rfl))
              go_simp
              exact hK _ _ (Below.refl _ _) (by intro d hd; cases hd; exact rfl)
            refine allStep_cons (stepS_plain hGk hSk hBB hJk (by kernel_rfl) rfl ?_) ?_
            · intro a u hb hz hj hl hp K Q hK
              have e12 : a.tmps[12]?.getD undef = .string s := gd (hl 12 (by kernel_rfl))
              go_simp
              refine (implGet32_c s 2 _ hs ⟨by decide, by decide⟩).mono ?_
              rintro e u1 ⟨rfl, hb1⟩
              exact hK _ _ hb1 (by intro d hd; cases hd; exact rfl)
            refine allStep_cons (stepS_plain hGk hSk hBB hJk (by kernel_rfl) rfl ?_) ?_
            · intro a u hb hz hj hl hp K Q hK
              have e11 : a.tmps[11]?.getD undef = .int .i64 (g16 s 0 * 4294967296) := gd (hl 11 (by kernel_rfl))
              have e13 : a.tmps[13]?.getD undef = .int .i64 (g32 s 2) := gd (hl 13 (by kernel_rfl))
              go_simp
              exact hK _ _ (Below.refl _ _) (by intro d hd; cases hd; exact rfl)
            refine allStep_cons (stepS_plain hGk hSk hBB hJk (by kernel_rfl) rfl ?_) ?_
            · intro a u hb hz hj hl hp K Q hK
              have e0 : a.tmps[0]?.getD undef = .string s := gd (hl 0 (by kernel_rfl))
              go_simp
              exact hK _ _ (Below.refl _ _) (by intro d hd; cases hd; exact rfl)
            refine allStep_cons (stepS_plain hGk hSk hBB hJk (by kernel_rfl) rfl ?_) ?_
            · intro a u hb hz hj hl hp K Q hK
              have e15 : a.tmps[15]?.getD undef = .string s := gd (hl 15 (by kernel_rfl))
              go_simp
              refine (implGet16_c s 6 _ hs ⟨by decide, by decide⟩).mono ?_
              rintro e u1 ⟨rfl, hb1⟩
              exact hK _ _ hb1 (by intro d hd; cases hd; exact rfl)
            refine allStep_cons (stepS_plain hGk hSk hBB hJk (by kernel_rfl) rfl ?_) ?_
            · intro a u hb hz hj hl hp K Q hK
              have e16 : a.tmps[16]?.getD undef = .int .i64 (g16 s 6) := gd (hl 16 (by kernel_rfl))
              go_simp
              exact hK _ _ (Below.refl _ _) (by intro d hd; cases hd; exact rfl)
            refine allStep_cons (stepS_plain hGk hSk hBB hJk (by kernel_rfl) rfl ?_) ?_
            · intro a u hb hz hj hl hp K Q hK
              have e0 : a.tmps[0]?.getD undef = .string s := gd (hl 0 (by kernel_rfl))
              go_simp
              exact hK _ _ (Below.refl _ _) (by intro d hd; cases hd; exact rfl)
            refine allStep_cons (stepS_plain hGk hSk hBB hJk (by kernel_rfl) rfl ?_) ?_
            · intro a u hb hz hj hl hp K Q hK
              have e18 : a.tmps[18]?.getD undef = .string s := gd (hl 18 (by kernel_rfl))
              go_simp
              refine (implGet32_c s 8 _ hs ⟨by decide, by decide⟩).mono ?_
              rintro e u1 ⟨rfl, hb1⟩
              exact hK _ _ hb1 (by intro d hd; cases hd; exact rfl)
            refine allStep_cons (stepS_plain hGk hSk hBB hJk (by kernel_rfl) rfl ?_) ?_
            · intro a u hb hz hj hl hp K Q hK
              have e17 : a.tmps[17]?.getD undef = .int .i64 (g16 s 6 * 4294967296) := gd (hl 17 (by kernel_rfl))
              have e19 : a.tmps[19]?.getD undef = .int .i64 (g32 s 8) := gd (hl 19 (by kernel_rfl))
              go_simp
              exact hK _ _ (Below.refl _ _) (by intro d hd; cases hd; exact rfl)
            refine allStep_cons (stepS_plain hGk hSk hBB hJk (by kernel_rfl) rfl ?_) ?_
            · intro a u hb hz hj hl hp K Q hK
              have e0 : a.tmps[0]?.getD undef = .string s := gd (hl 0 (by kernel_rfl))
              go_simp
              exact hK _ _ (Below.refl _ _) (by intro d hd; cases hd; exact rfl)
            refine allStep_cons (stepS_plain hGk hSk hBB hJk (by kernel_rfl) rfl ?_) ?_
            · intro a u hb hz hj hl hp K Q hK
              have e21 : a.tmps[21]?.getD undef = .string s := gd (hl 21 (by kernel_rfl))
              go_simp
              refine (hT _).mono ?_
              rintro e u1 ⟨rfl, hb1⟩
              exact hK _ _ hb1 (by intro d hd; cases hd; exact rfl)
            refine allStep_cons (stepS_plain hGk hSk hBB hJk (by kernel_rfl) rfl ?_) ?_
            · intro a u hb hz hj hl hp K Q hK
              have e0 : a.tmps[0]?.getD undef = .string s := gd (hl 0 (by kernel_rfl))
              go_simp
              exact hK _ _ (Below.refl _ _) (by intro d hd; cases hd; exact rfl)
            refine allStep_cons (stepS_plain hGk hSk hBB hJk (by kernel_rfl) rfl ?_) ?_
            · intro a u hb hz hj hl hp K Q hK
              have e23 : a.tmps[23]?.getD undef = .string s := gd (hl 23 (by kernel_rfl))
              go_simp
              exact hK _ _ (Below.refl _ _) (by intro d hd; cases hd; exact rfl)
            refine allStep_cons (stepS_plain hGk hSk hBB hJk (by kernel_rfl) rfl ?_) ?_
            · intro a u hb hz hj hl hp K Q hK
              have e14 : a.tmps[14]?.getD undef = .int .i64 D := gd (hl 14 (by kernel_rfl))
              have e20 : a.tmps[20]?.getD undef = .int .i64 S := gd (hl 20 (by kernel_rfl))
              have e22 : a.tmps[22]?.getD undef = .int .i64 33024 := gd (hl 22 (by kernel_rfl))
              have e24 : a.tmps[24]?.getD undef = .string (s.extract 14 s.size) := gd (hl 24 (by kernel_rfl))
              go_simp
              exact hK _ _ (Below.refl _ _) (by intro d hd; cases hd; exact rfl)
            refine allStep_cons (stepS_plain hGk hSk hBB hJk (by kernel_rfl) rfl ?_) ?_
            · intro a u hb hz hj hl hp K Q hK
              go_simp
              exact hK _ _ (by go_grown) (by intro d hd; cases hd; exact BoxP.new _ _ [.int .i64 0, .int .i64 0, .int .i64 0, .int .i64 0, .string ⟨#[]⟩] (by omega) rfl)
            refine allStep_cons (stepS_store (Chg w0.heap.size 99) (fun _ _ hc hb => hc.below' (by omega) hb) (fun _ _ hc => hc.size) (hold_rel ?_) ?_ ?_ rfl rfl ?_) ?_
            · intro p hp
              simp only [List.mem_cons, List.not_mem_nil, or_false] at hp
              rcases hp with rfl | rfl | rfl | rfl | rfl | rfl | rfl | rfl | rfl | rfl | rfl | rfl | rfl | rfl | rfl | rfl | rfl | rfl
              all_goals (intro u u' v hb hv; first | exact hv | exact BoxP.chg hv hb | exact RowP.chg hv hb (by decide))
            · intro s hs hne u u' hb
              simp only [List.mem_cons, List.not_mem_nil, or_false] at hs
              rcases hs with rfl
              all_goals first | exact absurd (by rfl) hne | (refine ⟨fun h => ?_, fun _ h => ?_⟩ <;> first | exact h | exact StoP.chg h hb (by decide) | exact StoR.chg h hb (by decide) (by decide) | exact Blk.chgL h hb (by omega) | exact StaR.chgL h hb (by omega) (by decide))
            · intro u u' hb hj
              have j0 := hj
              exact (j0.chgL hb (by omega))
            · intro a u hb hz hj hl hp K Q hK
              obtain ⟨b, exb, hB, zs, hzl, hbk⟩ : BoxP w0.heap.size 99 5 u (a.tmps.getD 4 undef) := hl 4 (by kernel_rfl)
              have e4 := gd exb
              have e25 : a.tmps[25]?.getD undef = .agg #[.int .i64 D, .int .i64 S, .int .i64 (-1), .int .i64 33024, .string (s.extract 14 s.size)] := gd (hl 25 (by kernel_rfl))
              obtain ⟨z0, z1, z2, z3, z4, rfl⟩ : ∃ z0 z1 z2 z3 z4, zs = [z0, z1, z2, z3, z4] := (by match zs, hzl with | [z0, z1, z2, z3, z4], _ => exact ⟨_, _, _, _, _, rfl⟩)
              have hlt := hbk.lt
              have g0 : u.cell? ⟨b, 0, none⟩ = some z0 := (hbk.cell 0).trans rfl
              have f0 := hbk.frozen 0
              have g1 : u.cell? ⟨b, 1, none⟩ = some z1 := (hbk.cell 1).trans rfl
              have f1 := hbk.frozen 1
              have g2 : u.cell? ⟨b, 2, none⟩ = some z2 := (hbk.cell 2).trans rfl
              have f2 := hbk.frozen 2
              have g3 : u.cell? ⟨b, 3, none⟩ = some z3 := (hbk.cell 3).trans rfl
              have f3 := hbk.frozen 3
              have g4 : u.cell? ⟨b, 4, none⟩ = some z4 := (hbk.cell 4).trans rfl
              have f4 := hbk.frozen 4
              go_simp
              refine hK undef _ ((((((Chg.refl _ _ _).set hbk hB 0 _).set (hbk.set_ 0 _) hB 1 _).set ((hbk.set_ 0 _).set_ 1 _) hB 2 _).set (((hbk.set_ 0 _).set_ 1 _).set_ 2 _) hB 3 _).set ((((hbk.set_ 0 _).set_ 1 _).set_ 2 _).set_ 3 _) hB 4 _) (fun s hs he => ?_)
              simp only [List.mem_cons, List.not_mem_nil, or_false] at hs
              rcases hs with rfl
              · exact ⟨b, exb, hB, (((((hbk.set_ 0 _).set_ 1 _).set_ 2 _).set_ 3 _).set_ 4 _)⟩
            exact allStep_nil
          intro xT w1 hb hz hj hL hSt
          clear hk0
          have hk0 : (fun u => Blk u (w.heap.size) 99 [.int .i64 0, .int .i64 0, .int .i64 0, .int .i64 0, .string ⟨#[]⟩]) w1 := hj
          dsimp only at hk0
          obtain ⟨bk_1, fx4, lo1, hk1⟩ : StoP w0.heap.size 99 [.int .i64 D, .int .i64 S, .int .i64 (-1), .int .i64 33024, .string (s.extract 14 s.size)] w1 (xT 4) := hSt _ (List.mem_of_getElem? (i := 0) rfl)
          simp only [List.map, putAll, fx4]
          have bl1 := hk1.lt
          have k1 : Below w.heap.size w w1 := k0.trans hb
          have p1 : w0.heap.size ≤ w1.heap.size := hb.size
          have bl0 := Nat.lt_of_lt_of_le bl0 hb.size
          clear hL hSt hb hz fx4
          have bx1_3 := hk1.at_ 3 _ rfl
          go_wp2_with fail
          refine (hv _).mono ?_
          rintro e w2 ⟨rfl, hb⟩
          have k2 : Below w.heap.size w w2 := ext_step k1 (by omega) hb
          have p2 := hb.size
          replace hk0 := hk0.ext hb
          replace hk1 := hk1.ext hb
          clear bx1_3
          have bl0 := Nat.lt_of_lt_of_le bl0 hb.size
          have bl1 := Nat.lt_of_lt_of_le bl1 hb.size
          clear hb
          have bx1_2 := hk1.at_ 2 _ rfl
          have fz1_2 := hk1.frozen 2
          go_wp2_with fail
          have hc : ChgA (bk_1) w2 (w2.setCell ⟨bk_1, 2, none⟩ (.int .i64 V)) := (ChgA.refl _ _).set _ _
          have hko := hk1
          replace hk0 := hk0.chgA hc (by omega)
          replace hk1 : Blk (w2.setCell ⟨bk_1, 2, none⟩ (.int .i64 V)) (bk_1) 99 [.int .i64 D, .int .i64 S, .int .i64 V, .int .i64 33024, .string (s.extract 14 s.size)] := hk1.set_ 2 _
          have k3 : Below w.heap.size w (w2.setCell ⟨bk_1, 2, none⟩ (.int .i64 V)) := hc.below (by omega) k2
          have p3 : (w2.setCell ⟨bk_1, 2, none⟩ (.int .i64 V)).heap.size = w2.heap.size := hc.size
          have bl0 := Nat.lt_of_lt_of_le bl0 (Nat.le_of_eq p3.symm)
          have bl1 := Nat.lt_of_lt_of_le bl1 (Nat.le_of_eq p3.symm)
          generalize hW0 : (w2.setCell ⟨bk_1, 2, none⟩ (.int .i64 V)) = w3 at *
          clear hW0 hc hko
          clear bx1_2 fz1_2
          refine (hT2 _).mono ?_
          rintro e w4 ⟨rfl, hb⟩
          have k4 : Below w.heap.size w w4 := ext_step k3 (by omega) hb
          have p4 := hb.size
          replace hk0 := hk0.ext hb
          replace hk1 := hk1.ext hb
          have bl0 := Nat.lt_of_lt_of_le bl0 hb.size
          have bl1 := Nat.lt_of_lt_of_le bl1 hb.size
          clear hb
          have bx1_0 := hk1.at_ 0 _ rfl
          have fz1_0 := hk1.frozen 0
          have bx1_1 := hk1.at_ 1 _ rfl
          have fz1_1 := hk1.frozen 1
          have bx1_2 := hk1.at_ 2 _ rfl
          have fz1_2 := hk1.frozen 2
          have bx1_3 := hk1.at_ 3 _ rfl
          have fz1_3 := hk1.frozen 3
          have bx1_4 := hk1.at_ 4 _ rfl
          have fz1_4 := hk1.frozen 4
          go_wp2_with fail
          have hc : ChgA (bk_1) w4 (w4.setCell ⟨bk_1, 3, none⟩ (.int .i64 T)) := (ChgA.refl _ _).set _ _
          have hko := hk1
          replace hk0 := hk0.chgA hc (by omega)
          replace hk1 : Blk (w4.setCell ⟨bk_1, 3, none⟩ (.int .i64 T)) (bk_1) 99 [.int .i64 D, .int .i64 S, .int .i64 V, .int .i64 T, .string (s.extract 14 s.size)] := hk1.set_ 3 _
          have k5 : Below w.heap.size w (w4.setCell ⟨bk_1, 3, none⟩ (.int .i64 T)) := hc.below (by omega) k4
          have p5 : (w4.setCell ⟨bk_1, 3, none⟩ (.int .i64 T)).heap.size = w4.heap.size := hc.size
          have bl0 := Nat.lt_of_lt_of_le bl0 (Nat.le_of_eq p5.symm)
          have bl1 := Nat.lt_of_lt_of_le bl1 (Nat.le_of_eq p5.symm)
          generalize hW0 : (w4.setCell ⟨bk_1, 3, none⟩ (.int .i64 T)) = w5 at *
          clear hW0 hc hko
          clear bx1_0 fz1_0 bx1_1 fz1_1 bx1_2 fz1_2 bx1_3 fz1_3 bx1_4 fz1_4
          have hc : ChgA (bk_1) w5 (w5.setCell ⟨bk_1, 4, none⟩ (.string B)) := (ChgA.refl _ _).set _ _
          have hko := hk1
          replace hk0 := hk0.chgA hc (by omega)
          replace hk1 : Blk (w5.setCell ⟨bk_1, 4, none⟩ (.string B)) (bk_1) 99 [.int .i64 D, .int .i64 S, .int .i64 V, .int .i64 T, .string B] := hk1.set_ 4 _
          have k6 : Below w.heap.size w (w5.setCell ⟨bk_1, 4, none⟩ (.string B)) := hc.below (by omega) k5
          have p6 : (w5.setCell ⟨bk_1, 4, none⟩ (.string B)).heap.size = w5.heap.size := hc.size
          have bl0 := Nat.lt_of_lt_of_le bl0 (Nat.le_of_eq p6.symm)
          have bl1 := Nat.lt_of_lt_of_le bl1 (Nat.le_of_eq p6.symm)
          generalize hW0 : (w5.setCell ⟨bk_1, 4, none⟩ (.string B)) = w6 at *
          clear hW0 hc hko
          refine (hok _).mono ?_
          rintro e w7 ⟨rfl, hb⟩
          have k7 : Below w.heap.size w w7 := ext_step k6 (by omega) hb
          have p7 := hb.size
          replace hk0 := hk0.ext hb
          replace hk1 := hk1.ext hb
          have bl0 := Nat.lt_of_lt_of_le bl0 hb.size
          have bl1 := Nat.lt_of_lt_of_le bl1 hb.size
          clear hb
          have bx1_0 := hk1.at_ 0 _ rfl
          have bx1_1 := hk1.at_ 1 _ rfl
          have bx1_2 := hk1.at_ 2 _ rfl
          have bx1_3 := hk1.at_ 3 _ rfl
          have bx1_4 := hk1.at_ 4 _ rfl
          have bx0_0 := hk0.at_ 0 _ rfl
          have fz0_0 := hk0.frozen 0
          have bx0_1 := hk0.at_ 1 _ rfl
          have fz0_1 := hk0.frozen 1
          have bx0_2 := hk0.at_ 2 _ rfl
          have fz0_2 := hk0.frozen 2
          have bx0_3 := hk0.at_ 3 _ rfl
          have fz0_3 := hk0.frozen 3
          have bx0_4 := hk0.at_ 4 _ rfl
          have fz0_4 := hk0.frozen 4
          go_wp2_with fail
          clear bx1_0 bx1_1 bx1_2 bx1_3 bx1_4 hk1
          have hcc := ChgA.refl (w.heap.size) w7
          obtain ⟨w8_0, hW0⟩ : ∃ W, W = w7.setCell ⟨w.heap.size, 0, none⟩ (.int .i64 D) := ⟨_, rfl⟩
          replace hcc : ChgA (w.heap.size) w7 w8_0 := by rw [hW0]; exact hcc.set _ _
          replace hk0 : Blk w8_0 (w.heap.size) 99 [.int .i64 D, .int .i64 0, .int .i64 0, .int .i64 0, .string ⟨#[]⟩] := by rw [hW0]; exact hk0.set_ 0 _
          rw [← hW0]
          clear hW0
          obtain ⟨w8_1, hW0⟩ : ∃ W, W = w8_0.setCell ⟨w.heap.size, 1, none⟩ (.int .i64 S) := ⟨_, rfl⟩
          replace hcc : ChgA (w.heap.size) w7 w8_1 := by rw [hW0]; exact hcc.set _ _
          replace hk0 : Blk w8_1 (w.heap.size) 99 [.int .i64 D, .int .i64 S, .int .i64 0, .int .i64 0, .string ⟨#[]⟩] := by rw [hW0]; exact hk0.set_ 1 _
          rw [← hW0]
          clear hW0
          obtain ⟨w8_2, hW0⟩ : ∃ W, W = w8_1.setCell ⟨w.heap.size, 2, none⟩ (.int .i64 V) := ⟨_, rfl⟩
          replace hcc : ChgA (w.heap.size) w7 w8_2 := by rw [hW0]; exact hcc.set _ _
          replace hk0 : Blk w8_2 (w.heap.size) 99 [.int .i64 D, .int .i64 S, .int .i64 V, .int .i64 0, .string ⟨#[]⟩] := by rw [hW0]; exact hk0.set_ 2 _
          rw [← hW0]
          clear hW0
          obtain ⟨w8_3, hW0⟩ : ∃ W, W = w8_2.setCell ⟨w.heap.size, 3, none⟩ (.int .i64 T) := ⟨_, rfl⟩
          replace hcc : ChgA (w.heap.size) w7 w8_3 := by rw [hW0]; exact hcc.set _ _
          replace hk0 : Blk w8_3 (w.heap.size) 99 [.int .i64 D, .int .i64 S, .int .i64 V, .int .i64 T, .string ⟨#[]⟩] := by rw [hW0]; exact hk0.set_ 3 _
          rw [← hW0]
          clear hW0
          obtain ⟨w8, hW0⟩ : ∃ W, W = w8_3.setCell ⟨w.heap.size, 4, none⟩ (.string B) := ⟨_, rfl⟩
          replace hcc : ChgA (w.heap.size) w7 w8 := by rw [hW0]; exact hcc.set _ _
          replace hk0 : Blk w8 (w.heap.size) 99 [.int .i64 D, .int .i64 S, .int .i64 V, .int .i64 T, .string B] := by rw [hW0]; exact hk0.set_ 4 _
          rw [← hW0]
          clear hW0
          have hc := hcc
          have k8 := hc.below (by omega) k7
          have p8 := hc.size
          replace bl0 := Nat.lt_of_lt_of_le bl0 (Nat.le_of_eq p8.symm)
          replace bl1 := Nat.lt_of_lt_of_le bl1 (Nat.le_of_eq p8.symm)
          clear hc hcc
          clear bx0_0 fz0_0 bx0_1 fz0_1 bx0_2 fz0_2 bx0_3 fz0_3 bx0_4 fz0_4
          have bx0_0 := hk0.at_ 0 _ rfl
          have bx0_1 := hk0.at_ 1 _ rfl
          have bx0_2 := hk0.at_ 2 _ rfl
          have bx0_3 := hk0.at_ 3 _ rfl
          have bx0_4 := hk0.at_ 4 _ rfl
          refine bodyPost_ret (v := .tuple #[.agg #[.int .i64 D, .int .i64 S, .int .i64 V, .int .i64 T, .string B], .bool true]) (by simp [results, Try.results61, go_sem, bx0_0, bx0_1, bx0_2, bx0_3, bx0_4]) rfl ?_
          exact ⟨rfl, k8⟩
      · have hT := fun u => implGet16_c s 12 u hs ⟨by decide, by decide⟩
        have d3 : vlE s = -1 := by rw [vlE, if_neg h12]
        have d4 : tyE s = g16 s 12 := by rw [tyE, if_neg h12]
        have d5 : bdE s = s.extract 14 s.size := by rw [bdE, atN, if_neg h12]
        obtain ⟨T, hTT⟩ : ∃ T, g16 s 12 = T := ⟨_, rfl⟩
        rw [hTT] at h12
        simp only [hTT] at hT d4
        have hBs : (s.extract 14 s.size).size ≤ 1048576 := by rw [ByteArray.size_extract]; omega
        obtain ⟨B, hB⟩ : ∃ B, s.extract 14 s.size = B := ⟨_, rfl⟩
        rw [hB] at d5 hBs
        rw [d5]
        have heq : ethB D S (-1) T B = okE s := by rw [okE, d1, d2, d3, d4, d5, decide_eq_true (by omega), Bool.true_and]
        cases hok0 : okE s
        · rw [hok0] at heq
          simp only [ethI_no hok0, ethT_no hok0, d1, d2, d3, d4]
          have hEO := fun u => implEthOk_c D S (-1) T B u (by omega)
          simp only [heq] at hEO
          have hok := fun u => calls_bool (hEO u) rfl
          clear hEO
          go_enter Try.func61, Try.ntmps61
          go_wp2_with fail
          have k0 : Below w.heap.size w (w.alloc (.cells #[.int .i64 0, .int .i64 0, .int .i64 0, .int .i64 0, .string ⟨#[]⟩] 99)) := by go_grown
          have bl0 : w.heap.size < (w.alloc (.cells #[.int .i64 0, .int .i64 0, .int .i64 0, .int .i64 0, .string ⟨#[]⟩] 99)).heap.size := by go_size
          have hk0 : Blk (w.alloc (.cells #[.int .i64 0, .int .i64 0, .int .i64 0, .int .i64 0, .string ⟨#[]⟩] 99)) (w.heap.size) 99 [.int .i64 0, .int .i64 0, .int .i64 0, .int .i64 0, .string ⟨#[]⟩] := by simpa using Blk.new w 99 [.int .i64 0, .int .i64 0, .int .i64 0, .int .i64 0, .string ⟨#[]⟩]
          have p0 := k0.size
          generalize hW0 : (w.alloc (.cells #[.int .i64 0, .int .i64 0, .int .i64 0, .int .i64 0, .string ⟨#[]⟩] 99)) = w0 at *
          clear hW0
          have hBB : w.heap.size ≤ w0.heap.size := by omega
          refine wp_region_slotsS (w.heap.size) [(9, fun _ v => v = .string s), (10, fun _ v => v = .int .i64 (g16 s 0)), (11, fun _ v => v = .int .i64 (g16 s 0 * 4294967296)), (12, fun _ v => v = .string s), (13, fun _ v => v = .int .i64 (g32 s 2)), (14, fun _ v => v = .int .i64 D), (15, fun _ v => v = .string s), (16, fun _ v => v = .int .i64 (g16 s 6)), (17, fun _ v => v = .int .i64 (g16 s 6 * 4294967296)), (18, fun _ v => v = .string s), (19, fun _ v => v = .int .i64 (g32 s 8)), (20, fun _ v => v = .int .i64 S), (21, fun _ v => v = .string s), (22, fun _ v => v = .int .i64 T), (23, fun _ v => v = .string s), (24, fun _ v => v = .string B), (25, fun _ v => v = .agg #[.int .i64 D, .int .i64 S, .int .i64 (-1), .int .i64 T, .string B]), (4, BoxP w0.heap.size 99 5)] [⟨18, 4, fun _ => True, StoP w0.heap.size 99 [.int .i64 D, .int .i64 S, .int .i64 (-1), .int .i64 T, .string B]⟩] (fun u => Blk u (w.heap.size) 99 [.int .i64 0, .int .i64 0, .int .i64 0, .int .i64 0, .string ⟨#[]⟩]) (by kernel_rfl) hBB (by kernel_rfl) (by kernel_rfl) (by kernel_rfl) (by kernel_rfl) ?_ ?_ ?_ ?_ ?_ ?_ ?_
          · intro p hp
            simp only [List.mem_cons, List.not_mem_nil, or_false] at hp
            rcases hp with rfl | rfl | rfl | rfl | rfl | rfl | rfl | rfl | rfl | rfl | rfl | rfl | rfl | rfl | rfl | rfl | rfl | rfl
            all_goals (intro u u' v hb hv; first | exact hv | exact BoxP.keep hv hb | exact RowP.keep hv hb)
          · intro s hs u u' hb
            simp only [List.mem_cons, List.not_mem_nil, or_false] at hs
            rcases hs with rfl
            all_goals (refine ⟨fun h => ?_, fun _ h => ?_⟩ <;> first | exact h | exact StoP.keep h hb | exact StoR.keep h hb | exact Blk.ext h hb | exact StaR.keep h hb)
          · intro s hs
            simp only [List.mem_cons, List.not_mem_nil, or_false] at hs
            rcases hs with rfl
            all_goals first | trivial
          · exact hk0
          · intro u u' hb hj
            have j0 := hj
            exact (j0.ext hb)
          · intro hGk hSk hJk
            refine allStep_cons (stepS_plain hGk hSk hBB hJk (by kernel_rfl) rfl ?_) ?_
            · intro a u hb hz hj hl hp K Q hK
              have e0 : a.tmps[0]?.getD undef = .string s := gd (hl 0 (by kernel_rfl))
              go_simp
              exact hK _ _ (Below.refl _ _) (by intro d hd; cases hd; exact rfl)
            refine allStep_cons (stepS_plain hGk hSk hBB hJk (by kernel_rfl) rfl ?_) ?_
            · intro a u hb hz hj hl hp K Q hK
              have e9 : a.tmps[9]?.getD undef = .string s := gd (hl 9 (by kernel_rfl))
              go_simp
              refine (implGet16_c s 0 _ hs ⟨by decide, by decide⟩).mono ?_
              rintro e u1 ⟨rfl, hb1⟩
              exact hK _ _ hb1 (by intro d hd; cases hd; exact rfl)
            refine allStep_cons (stepS_plain hGk hSk hBB hJk (by kernel_rfl) rfl ?_) ?_
            · intro a u hb hz hj hl hp K Q hK
              have e10 : a.tmps[10]?.getD undef = .int .i64 (g16 s 0) := gd (hl 10 (by kernel_rfl))
              go_simp
              exact hK _ _ (Below.refl _ _) (by intro d hd; cases hd; exact rfl)
            refine allStep_cons (stepS_plain hGk hSk hBB hJk (by kernel_rfl) rfl ?_) ?_
            · intro a u hb hz hj hl hp K Q hK
              have e0 : a.tmps[0]?.getD undef = .string s := gd (hl 0 (by kernel_rfl))
              go_simp
              exact hK _ _ (Below.refl _ _) (by intro d hd; cases hd; exact rfl)
            refine allStep_cons (stepS_plain hGk hSk hBB hJk (by kernel_rfl) rfl ?_) ?_
            · intro a u hb hz hj hl hp K Q hK
              have e12 : a.tmps[12]?.getD undef = .string s := gd (hl 12 (by kernel_rfl))
              go_simp
              refine (implGet32_c s 2 _ hs ⟨by decide, by decide⟩).mono ?_
              rintro e u1 ⟨rfl, hb1⟩
              exact hK _ _ hb1 (by intro d hd; cases hd; exact rfl)
            refine allStep_cons (stepS_plain hGk hSk hBB hJk (by kernel_rfl) rfl ?_) ?_
            · intro a u hb hz hj hl hp K Q hK
              have e11 : a.tmps[11]?.getD undef = .int .i64 (g16 s 0 * 4294967296) := gd (hl 11 (by kernel_rfl))
              have e13 : a.tmps[13]?.getD undef = .int .i64 (g32 s 2) := gd (hl 13 (by kernel_rfl))
              go_simp
              exact hK _ _ (Below.refl _ _) (by intro d hd; cases hd; exact rfl)
            refine allStep_cons (stepS_plain hGk hSk hBB hJk (by kernel_rfl) rfl ?_) ?_
            · intro a u hb hz hj hl hp K Q hK
              have e0 : a.tmps[0]?.getD undef = .string s := gd (hl 0 (by kernel_rfl))
              go_simp
              exact hK _ _ (Below.refl _ _) (by intro d hd; cases hd; exact rfl)
            refine allStep_cons (stepS_plain hGk hSk hBB hJk (by kernel_rfl) rfl ?_) ?_
            · intro a u hb hz hj hl hp K Q hK
              have e15 : a.tmps[15]?.getD undef = .string s := gd (hl 15 (by kernel_rfl))
              go_simp
              refine (implGet16_c s 6 _ hs ⟨by decide, by decide⟩).mono ?_
              rintro e u1 ⟨rfl, hb1⟩
              exact hK _ _ hb1 (by intro d hd; cases hd; exact rfl)
            refine allStep_cons (stepS_plain hGk hSk hBB hJk (by kernel_rfl) rfl ?_) ?_
            · intro a u hb hz hj hl hp K Q hK
              have e16 : a.tmps[16]?.getD undef = .int .i64 (g16 s 6) := gd (hl 16 (by kernel_rfl))
              go_simp
              exact hK _ _ (Below.refl _ _) (by intro d hd; cases hd; exact rfl)
            refine allStep_cons (stepS_plain hGk hSk hBB hJk (by kernel_rfl) rfl ?_) ?_
            · intro a u hb hz hj hl hp K Q hK
              have e0 : a.tmps[0]?.getD undef = .string s := gd (hl 0 (by kernel_rfl))
              go_simp
              exact hK _ _ (Below.refl _ _) (by intro d hd; cases hd; exact rfl)
            refine allStep_cons (stepS_plain hGk hSk hBB hJk (by kernel_rfl) rfl ?_) ?_
            · intro a u hb hz hj hl hp K Q hK
              have e18 : a.tmps[18]?.getD undef = .string s := gd (hl 18 (by kernel_rfl))
              go_simp
              refine (implGet32_c s 8 _ hs ⟨by decide, by decide⟩).mono ?_
              rintro e u1 ⟨rfl, hb1⟩
              exact hK _ _ hb1 (by intro d hd; cases hd; exact rfl)
            refine allStep_cons (stepS_plain hGk hSk hBB hJk (by kernel_rfl) rfl ?_) ?_
            · intro a u hb hz hj hl hp K Q hK
              have e17 : a.tmps[17]?.getD undef = .int .i64 (g16 s 6 * 4294967296) := gd (hl 17 (by kernel_rfl))
              have e19 : a.tmps[19]?.getD undef = .int .i64 (g32 s 8) := gd (hl 19 (by kernel_rfl))
              go_simp
              exact hK _ _ (Below.refl _ _) (by intro d hd; cases hd; exact rfl)
            refine allStep_cons (stepS_plain hGk hSk hBB hJk (by kernel_rfl) rfl ?_) ?_
            · intro a u hb hz hj hl hp K Q hK
              have e0 : a.tmps[0]?.getD undef = .string s := gd (hl 0 (by kernel_rfl))
              go_simp
              exact hK _ _ (Below.refl _ _) (by intro d hd; cases hd; exact rfl)
            refine allStep_cons (stepS_plain hGk hSk hBB hJk (by kernel_rfl) rfl ?_) ?_
            · intro a u hb hz hj hl hp K Q hK
              have e21 : a.tmps[21]?.getD undef = .string s := gd (hl 21 (by kernel_rfl))
              go_simp
              refine (hT _).mono ?_
              rintro e u1 ⟨rfl, hb1⟩
              exact hK _ _ hb1 (by intro d hd; cases hd; exact rfl)
            refine allStep_cons (stepS_plain hGk hSk hBB hJk (by kernel_rfl) rfl ?_) ?_
            · intro a u hb hz hj hl hp K Q hK
              have e0 : a.tmps[0]?.getD undef = .string s := gd (hl 0 (by kernel_rfl))
              go_simp
              exact hK _ _ (Below.refl _ _) (by intro d hd; cases hd; exact rfl)
            refine allStep_cons (stepS_plain hGk hSk hBB hJk (by kernel_rfl) rfl ?_) ?_
            · intro a u hb hz hj hl hp K Q hK
              have e23 : a.tmps[23]?.getD undef = .string s := gd (hl 23 (by kernel_rfl))
              go_simp
              exact hK _ _ (Below.refl _ _) (by intro d hd; cases hd; exact rfl)
            refine allStep_cons (stepS_plain hGk hSk hBB hJk (by kernel_rfl) rfl ?_) ?_
            · intro a u hb hz hj hl hp K Q hK
              have e14 : a.tmps[14]?.getD undef = .int .i64 D := gd (hl 14 (by kernel_rfl))
              have e20 : a.tmps[20]?.getD undef = .int .i64 S := gd (hl 20 (by kernel_rfl))
              have e22 : a.tmps[22]?.getD undef = .int .i64 T := gd (hl 22 (by kernel_rfl))
              have e24 : a.tmps[24]?.getD undef = .string B := gd (hl 24 (by kernel_rfl))
              go_simp
              exact hK _ _ (Below.refl _ _) (by intro d hd; cases hd; exact rfl)
            refine allStep_cons (stepS_plain hGk hSk hBB hJk (by kernel_rfl) rfl ?_) ?_
            · intro a u hb hz hj hl hp K Q hK
              go_simp
              exact hK _ _ (by go_grown) (by intro d hd; cases hd; exact BoxP.new _ _ [.int .i64 0, .int .i64 0, .int .i64 0, .int .i64 0, .string ⟨#[]⟩] (by omega) rfl)
            refine allStep_cons (stepS_store (Chg w0.heap.size 99) (fun _ _ hc hb => hc.below' (by omega) hb) (fun _ _ hc => hc.size) (hold_rel ?_) ?_ ?_ rfl rfl ?_) ?_
            · intro p hp
              simp only [List.mem_cons, List.not_mem_nil, or_false] at hp
              rcases hp with rfl | rfl | rfl | rfl | rfl | rfl | rfl | rfl | rfl | rfl | rfl | rfl | rfl | rfl | rfl | rfl | rfl | rfl
              all_goals (intro u u' v hb hv; first | exact hv | exact BoxP.chg hv hb | exact RowP.chg hv hb (by decide))
            · intro s hs hne u u' hb
              simp only [List.mem_cons, List.not_mem_nil, or_false] at hs
              rcases hs with rfl
              all_goals first | exact absurd (by rfl) hne | (refine ⟨fun h => ?_, fun _ h => ?_⟩ <;> first | exact h | exact StoP.chg h hb (by decide) | exact StoR.chg h hb (by decide) (by decide) | exact Blk.chgL h hb (by omega) | exact StaR.chgL h hb (by omega) (by decide))
            · intro u u' hb hj
              have j0 := hj
              exact (j0.chgL hb (by omega))
            · intro a u hb hz hj hl hp K Q hK
              obtain ⟨b, exb, hB, zs, hzl, hbk⟩ : BoxP w0.heap.size 99 5 u (a.tmps.getD 4 undef) := hl 4 (by kernel_rfl)
              have e4 := gd exb
              have e25 : a.tmps[25]?.getD undef = .agg #[.int .i64 D, .int .i64 S, .int .i64 (-1), .int .i64 T, .string B] := gd (hl 25 (by kernel_rfl))
              obtain ⟨z0, z1, z2, z3, z4, rfl⟩ : ∃ z0 z1 z2 z3 z4, zs = [z0, z1, z2, z3, z4] := (by match zs, hzl with | [z0, z1, z2, z3, z4], _ => exact ⟨_, _, _, _, _, rfl⟩)
              have hlt := hbk.lt
              have g0 : u.cell? ⟨b, 0, none⟩ = some z0 := (hbk.cell 0).trans rfl
              have f0 := hbk.frozen 0
              have g1 : u.cell? ⟨b, 1, none⟩ = some z1 := (hbk.cell 1).trans rfl
              have f1 := hbk.frozen 1
              have g2 : u.cell? ⟨b, 2, none⟩ = some z2 := (hbk.cell 2).trans rfl
              have f2 := hbk.frozen 2
              have g3 : u.cell? ⟨b, 3, none⟩ = some z3 := (hbk.cell 3).trans rfl
              have f3 := hbk.frozen 3
              have g4 : u.cell? ⟨b, 4, none⟩ = some z4 := (hbk.cell 4).trans rfl
              have f4 := hbk.frozen 4
              go_simp
              refine hK undef _ ((((((Chg.refl _ _ _).set hbk hB 0 _).set (hbk.set_ 0 _) hB 1 _).set ((hbk.set_ 0 _).set_ 1 _) hB 2 _).set (((hbk.set_ 0 _).set_ 1 _).set_ 2 _) hB 3 _).set ((((hbk.set_ 0 _).set_ 1 _).set_ 2 _).set_ 3 _) hB 4 _) (fun s hs he => ?_)
              simp only [List.mem_cons, List.not_mem_nil, or_false] at hs
              rcases hs with rfl
              · exact ⟨b, exb, hB, (((((hbk.set_ 0 _).set_ 1 _).set_ 2 _).set_ 3 _).set_ 4 _)⟩
            exact allStep_nil
          intro xT w1 hb hz hj hL hSt
          clear hk0
          have hk0 : (fun u => Blk u (w.heap.size) 99 [.int .i64 0, .int .i64 0, .int .i64 0, .int .i64 0, .string ⟨#[]⟩]) w1 := hj
          dsimp only at hk0
          obtain ⟨bk_1, fx4, lo1, hk1⟩ : StoP w0.heap.size 99 [.int .i64 D, .int .i64 S, .int .i64 (-1), .int .i64 T, .string B] w1 (xT 4) := hSt _ (List.mem_of_getElem? (i := 0) rfl)
          simp only [List.map, putAll, fx4]
          have bl1 := hk1.lt
          have k1 : Below w.heap.size w w1 := k0.trans hb
          have p1 : w0.heap.size ≤ w1.heap.size := hb.size
          have bl0 := Nat.lt_of_lt_of_le bl0 hb.size
          clear hL hSt hb hz fx4
          have bx1_0 := hk1.at_ 0 _ rfl
          have bx1_1 := hk1.at_ 1 _ rfl
          have bx1_2 := hk1.at_ 2 _ rfl
          have bx1_3 := hk1.at_ 3 _ rfl
          have bx1_4 := hk1.at_ 4 _ rfl
          go_wp2_with fail
          refine (hok _).mono ?_
          rintro e w2 ⟨rfl, hb⟩
          have k2 : Below w.heap.size w w2 := ext_step k1 (by omega) hb
          have p2 := hb.size
          replace hk0 := hk0.ext hb
          replace hk1 := hk1.ext hb
          clear bx1_0 bx1_1 bx1_2 bx1_3 bx1_4
          have bl0 := Nat.lt_of_lt_of_le bl0 hb.size
          have bl1 := Nat.lt_of_lt_of_le bl1 hb.size
          clear hb
          clear  hk1
          have bx0_0 := hk0.at_ 0 _ rfl
          have fz0_0 := hk0.frozen 0
          have bx0_1 := hk0.at_ 1 _ rfl
          have fz0_1 := hk0.frozen 1
          have bx0_2 := hk0.at_ 2 _ rfl
          have fz0_2 := hk0.frozen 2
          have bx0_3 := hk0.at_ 3 _ rfl
          have fz0_3 := hk0.frozen 3
          have bx0_4 := hk0.at_ 4 _ rfl
          have fz0_4 := hk0.frozen 4
          go_wp2_with fail
          have hcc := ChgA.refl (w.heap.size) w2
          obtain ⟨w3_0, hW0⟩ : ∃ W, W = w2.setCell ⟨w.heap.size, 0, none⟩ (.int .i64 0) := ⟨_, rfl⟩
          replace hcc : ChgA (w.heap.size) w2 w3_0 := by rw [hW0]; exact hcc.set _ _
          replace hk0 : Blk w3_0 (w.heap.size) 99 [.int .i64 0, .int .i64 0, .int .i64 0, .int .i64 0, .string ⟨#[]⟩] := by rw [hW0]; exact hk0.set_ 0 _
          rw [← hW0]
          clear hW0
          obtain ⟨w3_1, hW0⟩ : ∃ W, W = w3_0.setCell ⟨w.heap.size, 1, none⟩ (.int .i64 0) := ⟨_, rfl⟩
          replace hcc : ChgA (w.heap.size) w2 w3_1 := by rw [hW0]; exact hcc.set _ _
          replace hk0 : Blk w3_1 (w.heap.size) 99 [.int .i64 0, .int .i64 0, .int .i64 0, .int .i64 0, .string ⟨#[]⟩] := by rw [hW0]; exact hk0.set_ 1 _
          rw [← hW0]
          clear hW0
          obtain ⟨w3_2, hW0⟩ : ∃ W, W = w3_1.setCell ⟨w.heap.size, 2, none⟩ (.int .i64 0) := ⟨_, rfl⟩
          replace hcc : ChgA (w.heap.size) w2 w3_2 := by rw [hW0]; exact hcc.set _ _
          replace hk0 : Blk w3_2 (w.heap.size) 99 [.int .i64 0, .int .i64 0, .int .i64 0, .int .i64 0, .string ⟨#[]⟩] := by rw [hW0]; exact hk0.set_ 2 _
          rw [← hW0]
          clear hW0
          obtain ⟨w3_3, hW0⟩ : ∃ W, W = w3_2.setCell ⟨w.heap.size, 3, none⟩ (.int .i64 0) := ⟨_, rfl⟩
          replace hcc : ChgA (w.heap.size) w2 w3_3 := by rw [hW0]; exact hcc.set _ _
          replace hk0 : Blk w3_3 (w.heap.size) 99 [.int .i64 0, .int .i64 0, .int .i64 0, .int .i64 0, .string ⟨#[]⟩] := by rw [hW0]; exact hk0.set_ 3 _
          rw [← hW0]
          clear hW0
          obtain ⟨w3, hW0⟩ : ∃ W, W = w3_3.setCell ⟨w.heap.size, 4, none⟩ (.string ⟨#[]⟩) := ⟨_, rfl⟩
          replace hcc : ChgA (w.heap.size) w2 w3 := by rw [hW0]; exact hcc.set _ _
          replace hk0 : Blk w3 (w.heap.size) 99 [.int .i64 0, .int .i64 0, .int .i64 0, .int .i64 0, .string ⟨#[]⟩] := by rw [hW0]; exact hk0.set_ 4 _
          rw [← hW0]
          clear hW0
          have hc := hcc
          have k3 := hc.below (by omega) k2
          have p3 := hc.size
          replace bl0 := Nat.lt_of_lt_of_le bl0 (Nat.le_of_eq p3.symm)
          replace bl1 := Nat.lt_of_lt_of_le bl1 (Nat.le_of_eq p3.symm)
          clear hc hcc
          clear bx0_0 fz0_0 bx0_1 fz0_1 bx0_2 fz0_2 bx0_3 fz0_3 bx0_4 fz0_4
          have bx0_0 := hk0.at_ 0 _ rfl
          have bx0_1 := hk0.at_ 1 _ rfl
          have bx0_2 := hk0.at_ 2 _ rfl
          have bx0_3 := hk0.at_ 3 _ rfl
          have bx0_4 := hk0.at_ 4 _ rfl
          refine bodyPost_ret (v := .tuple #[.agg #[.int .i64 0, .int .i64 0, .int .i64 0, .int .i64 0, .string ⟨#[]⟩], .bool false]) (by simp [results, Try.results61, go_sem, bx0_0, bx0_1, bx0_2, bx0_3, bx0_4]) rfl ?_
          exact ⟨rfl, k3⟩
        · rw [hok0] at heq
          simp only [ethI_yes hok0, ethT_yes hok0, d1, d2, d3, d4]
          have hEO := fun u => implEthOk_c D S (-1) T B u (by omega)
          simp only [heq] at hEO
          have hok := fun u => calls_bool (hEO u) rfl
          clear hEO
          go_enter Try.func61, Try.ntmps61
          go_wp2_with fail
          have k0 : Below w.heap.size w (w.alloc (.cells #[.int .i64 0, .int .i64 0, .int .i64 0, .int .i64 0, .string ⟨#[]⟩] 99)) := by go_grown
          have bl0 : w.heap.size < (w.alloc (.cells #[.int .i64 0, .int .i64 0, .int .i64 0, .int .i64 0, .string ⟨#[]⟩] 99)).heap.size := by go_size
          have hk0 : Blk (w.alloc (.cells #[.int .i64 0, .int .i64 0, .int .i64 0, .int .i64 0, .string ⟨#[]⟩] 99)) (w.heap.size) 99 [.int .i64 0, .int .i64 0, .int .i64 0, .int .i64 0, .string ⟨#[]⟩] := by simpa using Blk.new w 99 [.int .i64 0, .int .i64 0, .int .i64 0, .int .i64 0, .string ⟨#[]⟩]
          have p0 := k0.size
          generalize hW0 : (w.alloc (.cells #[.int .i64 0, .int .i64 0, .int .i64 0, .int .i64 0, .string ⟨#[]⟩] 99)) = w0 at *
          clear hW0
          have hBB : w.heap.size ≤ w0.heap.size := by omega
          refine wp_region_slotsS (w.heap.size) [(9, fun _ v => v = .string s), (10, fun _ v => v = .int .i64 (g16 s 0)), (11, fun _ v => v = .int .i64 (g16 s 0 * 4294967296)), (12, fun _ v => v = .string s), (13, fun _ v => v = .int .i64 (g32 s 2)), (14, fun _ v => v = .int .i64 D), (15, fun _ v => v = .string s), (16, fun _ v => v = .int .i64 (g16 s 6)), (17, fun _ v => v = .int .i64 (g16 s 6 * 4294967296)), (18, fun _ v => v = .string s), (19, fun _ v => v = .int .i64 (g32 s 8)), (20, fun _ v => v = .int .i64 S), (21, fun _ v => v = .string s), (22, fun _ v => v = .int .i64 T), (23, fun _ v => v = .string s), (24, fun _ v => v = .string B), (25, fun _ v => v = .agg #[.int .i64 D, .int .i64 S, .int .i64 (-1), .int .i64 T, .string B]), (4, BoxP w0.heap.size 99 5)] [⟨18, 4, fun _ => True, StoP w0.heap.size 99 [.int .i64 D, .int .i64 S, .int .i64 (-1), .int .i64 T, .string B]⟩] (fun u => Blk u (w.heap.size) 99 [.int .i64 0, .int .i64 0, .int .i64 0, .int .i64 0, .string ⟨#[]⟩]) (by kernel_rfl) hBB (by kernel_rfl) (by kernel_rfl) (by kernel_rfl) (by kernel_rfl) ?_ ?_ ?_ ?_ ?_ ?_ ?_
          · intro p hp
            simp only [List.mem_cons, List.not_mem_nil, or_false] at hp
            rcases hp with rfl | rfl | rfl | rfl | rfl | rfl | rfl | rfl | rfl | rfl | rfl | rfl | rfl | rfl | rfl | rfl | rfl | rfl
            all_goals (intro u u' v hb hv; first | exact hv | exact BoxP.keep hv hb | exact RowP.keep hv hb)
          · intro s hs u u' hb
            simp only [List.mem_cons, List.not_mem_nil, or_false] at hs
            rcases hs with rfl
            all_goals (refine ⟨fun h => ?_, fun _ h => ?_⟩ <;> first | exact h | exact StoP.keep h hb | exact StoR.keep h hb | exact Blk.ext h hb | exact StaR.keep h hb)
          · intro s hs
            simp only [List.mem_cons, List.not_mem_nil, or_false] at hs
            rcases hs with rfl
            all_goals first | trivial
          · exact hk0
          · intro u u' hb hj
            have j0 := hj
            exact (j0.ext hb)
          · intro hGk hSk hJk
            refine allStep_cons (stepS_plain hGk hSk hBB hJk (by kernel_rfl) rfl ?_) ?_
            · intro a u hb hz hj hl hp K Q hK
              have e0 : a.tmps[0]?.getD undef = .string s := gd (hl 0 (by kernel_rfl))
              go_simp
              exact hK _ _ (Below.refl _ _) (by intro d hd; cases hd; exact rfl)
            refine allStep_cons (stepS_plain hGk hSk hBB hJk (by kernel_rfl) rfl ?_) ?_
            · intro a u hb hz hj hl hp K Q hK
              have e9 : a.tmps[9]?.getD undef = .string s := gd (hl 9 (by kernel_rfl))
              go_simp
              refine (implGet16_c s 0 _ hs ⟨by decide, by decide⟩).mono ?_
              rintro e u1 ⟨rfl, hb1⟩
              exact hK _ _ hb1 (by intro d hd; cases hd; exact rfl)
            refine allStep_cons (stepS_plain hGk hSk hBB hJk (by kernel_rfl) rfl ?_) ?_
            · intro a u hb hz hj hl hp K Q hK
              have e10 : a.tmps[10]?.getD undef = .int .i64 (g16 s 0) := gd (hl 10 (by kernel_rfl))
              go_simp
              exact hK _ _ (Below.refl _ _) (by intro d hd; cases hd; exact rfl)
            refine allStep_cons (stepS_plain hGk hSk hBB hJk (by kernel_rfl) rfl ?_) ?_
            · intro a u hb hz hj hl hp K Q hK
              have e0 : a.tmps[0]?.getD undef = .string s := gd (hl 0 (by kernel_rfl))
              go_simp
              exact hK _ _ (Below.refl _ _) (by intro d hd; cases hd; exact rfl)
            refine allStep_cons (stepS_plain hGk hSk hBB hJk (by kernel_rfl) rfl ?_) ?_
            · intro a u hb hz hj hl hp K Q hK
              have e12 : a.tmps[12]?.getD undef = .string s := gd (hl 12 (by kernel_rfl))
              go_simp
              refine (implGet32_c s 2 _ hs ⟨by decide, by decide⟩).mono ?_
              rintro e u1 ⟨rfl, hb1⟩
              exact hK _ _ hb1 (by intro d hd; cases hd; exact rfl)
            refine allStep_cons (stepS_plain hGk hSk hBB hJk (by kernel_rfl) rfl ?_) ?_
            · intro a u hb hz hj hl hp K Q hK
              have e11 : a.tmps[11]?.getD undef = .int .i64 (g16 s 0 * 4294967296) := gd (hl 11 (by kernel_rfl))
              have e13 : a.tmps[13]?.getD undef = .int .i64 (g32 s 2) := gd (hl 13 (by kernel_rfl))
              go_simp
              exact hK _ _ (Below.refl _ _) (by intro d hd; cases hd; exact rfl)
            refine allStep_cons (stepS_plain hGk hSk hBB hJk (by kernel_rfl) rfl ?_) ?_
            · intro a u hb hz hj hl hp K Q hK
              have e0 : a.tmps[0]?.getD undef = .string s := gd (hl 0 (by kernel_rfl))
              go_simp
              exact hK _ _ (Below.refl _ _) (by intro d hd; cases hd; exact rfl)
            refine allStep_cons (stepS_plain hGk hSk hBB hJk (by kernel_rfl) rfl ?_) ?_
            · intro a u hb hz hj hl hp K Q hK
              have e15 : a.tmps[15]?.getD undef = .string s := gd (hl 15 (by kernel_rfl))
              go_simp
              refine (implGet16_c s 6 _ hs ⟨by decide, by decide⟩).mono ?_
              rintro e u1 ⟨rfl, hb1⟩
              exact hK _ _ hb1 (by intro d hd; cases hd; exact rfl)
            refine allStep_cons (stepS_plain hGk hSk hBB hJk (by kernel_rfl) rfl ?_) ?_
            · intro a u hb hz hj hl hp K Q hK
              have e16 : a.tmps[16]?.getD undef = .int .i64 (g16 s 6) := gd (hl 16 (by kernel_rfl))
              go_simp
              exact hK _ _ (Below.refl _ _) (by intro d hd; cases hd; exact rfl)
            refine allStep_cons (stepS_plain hGk hSk hBB hJk (by kernel_rfl) rfl ?_) ?_
            · intro a u hb hz hj hl hp K Q hK
              have e0 : a.tmps[0]?.getD undef = .string s := gd (hl 0 (by kernel_rfl))
              go_simp
              exact hK _ _ (Below.refl _ _) (by intro d hd; cases hd; exact rfl)
            refine allStep_cons (stepS_plain hGk hSk hBB hJk (by kernel_rfl) rfl ?_) ?_
            · intro a u hb hz hj hl hp K Q hK
              have e18 : a.tmps[18]?.getD undef = .string s := gd (hl 18 (by kernel_rfl))
              go_simp
              refine (implGet32_c s 8 _ hs ⟨by decide, by decide⟩).mono ?_
              rintro e u1 ⟨rfl, hb1⟩
              exact hK _ _ hb1 (by intro d hd; cases hd; exact rfl)
            refine allStep_cons (stepS_plain hGk hSk hBB hJk (by kernel_rfl) rfl ?_) ?_
            · intro a u hb hz hj hl hp K Q hK
              have e17 : a.tmps[17]?.getD undef = .int .i64 (g16 s 6 * 4294967296) := gd (hl 17 (by kernel_rfl))
              have e19 : a.tmps[19]?.getD undef = .int .i64 (g32 s 8) := gd (hl 19 (by kernel_rfl))
              go_simp
              exact hK _ _ (Below.refl _ _) (by intro d hd; cases hd; exact rfl)
            refine allStep_cons (stepS_plain hGk hSk hBB hJk (by kernel_rfl) rfl ?_) ?_
            · intro a u hb hz hj hl hp K Q hK
              have e0 : a.tmps[0]?.getD undef = .string s := gd (hl 0 (by kernel_rfl))
              go_simp
              exact hK _ _ (Below.refl _ _) (by intro d hd; cases hd; exact rfl)
            refine allStep_cons (stepS_plain hGk hSk hBB hJk (by kernel_rfl) rfl ?_) ?_
            · intro a u hb hz hj hl hp K Q hK
              have e21 : a.tmps[21]?.getD undef = .string s := gd (hl 21 (by kernel_rfl))
              go_simp
              refine (hT _).mono ?_
              rintro e u1 ⟨rfl, hb1⟩
              exact hK _ _ hb1 (by intro d hd; cases hd; exact rfl)
            refine allStep_cons (stepS_plain hGk hSk hBB hJk (by kernel_rfl) rfl ?_) ?_
            · intro a u hb hz hj hl hp K Q hK
              have e0 : a.tmps[0]?.getD undef = .string s := gd (hl 0 (by kernel_rfl))
              go_simp
              exact hK _ _ (Below.refl _ _) (by intro d hd; cases hd; exact rfl)
            refine allStep_cons (stepS_plain hGk hSk hBB hJk (by kernel_rfl) rfl ?_) ?_
            · intro a u hb hz hj hl hp K Q hK
              have e23 : a.tmps[23]?.getD undef = .string s := gd (hl 23 (by kernel_rfl))
              go_simp
              exact hK _ _ (Below.refl _ _) (by intro d hd; cases hd; exact rfl)
            refine allStep_cons (stepS_plain hGk hSk hBB hJk (by kernel_rfl) rfl ?_) ?_
            · intro a u hb hz hj hl hp K Q hK
              have e14 : a.tmps[14]?.getD undef = .int .i64 D := gd (hl 14 (by kernel_rfl))
              have e20 : a.tmps[20]?.getD undef = .int .i64 S := gd (hl 20 (by kernel_rfl))
              have e22 : a.tmps[22]?.getD undef = .int .i64 T := gd (hl 22 (by kernel_rfl))
              have e24 : a.tmps[24]?.getD undef = .string B := gd (hl 24 (by kernel_rfl))
              go_simp
              exact hK _ _ (Below.refl _ _) (by intro d hd; cases hd; exact rfl)
            refine allStep_cons (stepS_plain hGk hSk hBB hJk (by kernel_rfl) rfl ?_) ?_
            · intro a u hb hz hj hl hp K Q hK
              go_simp
              exact hK _ _ (by go_grown) (by intro d hd; cases hd; exact BoxP.new _ _ [.int .i64 0, .int .i64 0, .int .i64 0, .int .i64 0, .string ⟨#[]⟩] (by omega) rfl)
            refine allStep_cons (stepS_store (Chg w0.heap.size 99) (fun _ _ hc hb => hc.below' (by omega) hb) (fun _ _ hc => hc.size) (hold_rel ?_) ?_ ?_ rfl rfl ?_) ?_
            · intro p hp
              simp only [List.mem_cons, List.not_mem_nil, or_false] at hp
              rcases hp with rfl | rfl | rfl | rfl | rfl | rfl | rfl | rfl | rfl | rfl | rfl | rfl | rfl | rfl | rfl | rfl | rfl | rfl
              all_goals (intro u u' v hb hv; first | exact hv | exact BoxP.chg hv hb | exact RowP.chg hv hb (by decide))
            · intro s hs hne u u' hb
              simp only [List.mem_cons, List.not_mem_nil, or_false] at hs
              rcases hs with rfl
              all_goals first | exact absurd (by rfl) hne | (refine ⟨fun h => ?_, fun _ h => ?_⟩ <;> first | exact h | exact StoP.chg h hb (by decide) | exact StoR.chg h hb (by decide) (by decide) | exact Blk.chgL h hb (by omega) | exact StaR.chgL h hb (by omega) (by decide))
            · intro u u' hb hj
              have j0 := hj
              exact (j0.chgL hb (by omega))
            · intro a u hb hz hj hl hp K Q hK
              obtain ⟨b, exb, hB, zs, hzl, hbk⟩ : BoxP w0.heap.size 99 5 u (a.tmps.getD 4 undef) := hl 4 (by kernel_rfl)
              have e4 := gd exb
              have e25 : a.tmps[25]?.getD undef = .agg #[.int .i64 D, .int .i64 S, .int .i64 (-1), .int .i64 T, .string B] := gd (hl 25 (by kernel_rfl))
              obtain ⟨z0, z1, z2, z3, z4, rfl⟩ : ∃ z0 z1 z2 z3 z4, zs = [z0, z1, z2, z3, z4] := (by match zs, hzl with | [z0, z1, z2, z3, z4], _ => exact ⟨_, _, _, _, _, rfl⟩)
              have hlt := hbk.lt
              have g0 : u.cell? ⟨b, 0, none⟩ = some z0 := (hbk.cell 0).trans rfl
              have f0 := hbk.frozen 0
              have g1 : u.cell? ⟨b, 1, none⟩ = some z1 := (hbk.cell 1).trans rfl
              have f1 := hbk.frozen 1
              have g2 : u.cell? ⟨b, 2, none⟩ = some z2 := (hbk.cell 2).trans rfl
              have f2 := hbk.frozen 2
              have g3 : u.cell? ⟨b, 3, none⟩ = some z3 := (hbk.cell 3).trans rfl
              have f3 := hbk.frozen 3
              have g4 : u.cell? ⟨b, 4, none⟩ = some z4 := (hbk.cell 4).trans rfl
              have f4 := hbk.frozen 4
              go_simp
              refine hK undef _ ((((((Chg.refl _ _ _).set hbk hB 0 _).set (hbk.set_ 0 _) hB 1 _).set ((hbk.set_ 0 _).set_ 1 _) hB 2 _).set (((hbk.set_ 0 _).set_ 1 _).set_ 2 _) hB 3 _).set ((((hbk.set_ 0 _).set_ 1 _).set_ 2 _).set_ 3 _) hB 4 _) (fun s hs he => ?_)
              simp only [List.mem_cons, List.not_mem_nil, or_false] at hs
              rcases hs with rfl
              · exact ⟨b, exb, hB, (((((hbk.set_ 0 _).set_ 1 _).set_ 2 _).set_ 3 _).set_ 4 _)⟩
            exact allStep_nil
          intro xT w1 hb hz hj hL hSt
          clear hk0
          have hk0 : (fun u => Blk u (w.heap.size) 99 [.int .i64 0, .int .i64 0, .int .i64 0, .int .i64 0, .string ⟨#[]⟩]) w1 := hj
          dsimp only at hk0
          obtain ⟨bk_1, fx4, lo1, hk1⟩ : StoP w0.heap.size 99 [.int .i64 D, .int .i64 S, .int .i64 (-1), .int .i64 T, .string B] w1 (xT 4) := hSt _ (List.mem_of_getElem? (i := 0) rfl)
          simp only [List.map, putAll, fx4]
          have bl1 := hk1.lt
          have k1 : Below w.heap.size w w1 := k0.trans hb
          have p1 : w0.heap.size ≤ w1.heap.size := hb.size
          have bl0 := Nat.lt_of_lt_of_le bl0 hb.size
          clear hL hSt hb hz fx4
          have bx1_0 := hk1.at_ 0 _ rfl
          have bx1_1 := hk1.at_ 1 _ rfl
          have bx1_2 := hk1.at_ 2 _ rfl
          have bx1_3 := hk1.at_ 3 _ rfl
          have bx1_4 := hk1.at_ 4 _ rfl
          go_wp2_with fail
          refine (hok _).mono ?_
          rintro e w2 ⟨rfl, hb⟩
          have k2 : Below w.heap.size w w2 := ext_step k1 (by omega) hb
          have p2 := hb.size
          replace hk0 := hk0.ext hb
          replace hk1 := hk1.ext hb
          clear bx1_0 bx1_1 bx1_2 bx1_3 bx1_4
          have bl0 := Nat.lt_of_lt_of_le bl0 hb.size
          have bl1 := Nat.lt_of_lt_of_le bl1 hb.size
          clear hb
          have bx1_0 := hk1.at_ 0 _ rfl
          have bx1_1 := hk1.at_ 1 _ rfl
          have bx1_2 := hk1.at_ 2 _ rfl
          have bx1_3 := hk1.at_ 3 _ rfl
          have bx1_4 := hk1.at_ 4 _ rfl
          have bx0_0 := hk0.at_ 0 _ rfl
          have fz0_0 := hk0.frozen 0
          have bx0_1 := hk0.at_ 1 _ rfl
          have fz0_1 := hk0.frozen 1
          have bx0_2 := hk0.at_ 2 _ rfl
          have fz0_2 := hk0.frozen 2
          have bx0_3 := hk0.at_ 3 _ rfl
          have fz0_3 := hk0.frozen 3
          have bx0_4 := hk0.at_ 4 _ rfl
          have fz0_4 := hk0.frozen 4
          go_wp2_with fail
          clear bx1_0 bx1_1 bx1_2 bx1_3 bx1_4 hk1
          have hcc := ChgA.refl (w.heap.size) w2
          obtain ⟨w3_0, hW0⟩ : ∃ W, W = w2.setCell ⟨w.heap.size, 0, none⟩ (.int .i64 D) := ⟨_, rfl⟩
          replace hcc : ChgA (w.heap.size) w2 w3_0 := by rw [hW0]; exact hcc.set _ _
          replace hk0 : Blk w3_0 (w.heap.size) 99 [.int .i64 D, .int .i64 0, .int .i64 0, .int .i64 0, .string ⟨#[]⟩] := by rw [hW0]; exact hk0.set_ 0 _
          rw [← hW0]
          clear hW0
          obtain ⟨w3_1, hW0⟩ : ∃ W, W = w3_0.setCell ⟨w.heap.size, 1, none⟩ (.int .i64 S) := ⟨_, rfl⟩
          replace hcc : ChgA (w.heap.size) w2 w3_1 := by rw [hW0]; exact hcc.set _ _
          replace hk0 : Blk w3_1 (w.heap.size) 99 [.int .i64 D, .int .i64 S, .int .i64 0, .int .i64 0, .string ⟨#[]⟩] := by rw [hW0]; exact hk0.set_ 1 _
          rw [← hW0]
          clear hW0
          obtain ⟨w3_2, hW0⟩ : ∃ W, W = w3_1.setCell ⟨w.heap.size, 2, none⟩ (.int .i64 (-1)) := ⟨_, rfl⟩
          replace hcc : ChgA (w.heap.size) w2 w3_2 := by rw [hW0]; exact hcc.set _ _
          replace hk0 : Blk w3_2 (w.heap.size) 99 [.int .i64 D, .int .i64 S, .int .i64 (-1), .int .i64 0, .string ⟨#[]⟩] := by rw [hW0]; exact hk0.set_ 2 _
          rw [← hW0]
          clear hW0
          obtain ⟨w3_3, hW0⟩ : ∃ W, W = w3_2.setCell ⟨w.heap.size, 3, none⟩ (.int .i64 T) := ⟨_, rfl⟩
          replace hcc : ChgA (w.heap.size) w2 w3_3 := by rw [hW0]; exact hcc.set _ _
          replace hk0 : Blk w3_3 (w.heap.size) 99 [.int .i64 D, .int .i64 S, .int .i64 (-1), .int .i64 T, .string ⟨#[]⟩] := by rw [hW0]; exact hk0.set_ 3 _
          rw [← hW0]
          clear hW0
          obtain ⟨w3, hW0⟩ : ∃ W, W = w3_3.setCell ⟨w.heap.size, 4, none⟩ (.string B) := ⟨_, rfl⟩
          replace hcc : ChgA (w.heap.size) w2 w3 := by rw [hW0]; exact hcc.set _ _
          replace hk0 : Blk w3 (w.heap.size) 99 [.int .i64 D, .int .i64 S, .int .i64 (-1), .int .i64 T, .string B] := by rw [hW0]; exact hk0.set_ 4 _
          rw [← hW0]
          clear hW0
          have hc := hcc
          have k3 := hc.below (by omega) k2
          have p3 := hc.size
          replace bl0 := Nat.lt_of_lt_of_le bl0 (Nat.le_of_eq p3.symm)
          replace bl1 := Nat.lt_of_lt_of_le bl1 (Nat.le_of_eq p3.symm)
          clear hc hcc
          clear bx0_0 fz0_0 bx0_1 fz0_1 bx0_2 fz0_2 bx0_3 fz0_3 bx0_4 fz0_4
          have bx0_0 := hk0.at_ 0 _ rfl
          have bx0_1 := hk0.at_ 1 _ rfl
          have bx0_2 := hk0.at_ 2 _ rfl
          have bx0_3 := hk0.at_ 3 _ rfl
          have bx0_4 := hk0.at_ 4 _ rfl
          refine bodyPost_ret (v := .tuple #[.agg #[.int .i64 D, .int .i64 S, .int .i64 (-1), .int .i64 T, .string B], .bool true]) (by simp [results, Try.results61, go_sem, bx0_0, bx0_1, bx0_2, bx0_3, bx0_4]) rfl ?_
          exact ⟨rfl, k3⟩
end Go.Proofs.Ytifbfmafogmemaa
