/- The walk of laws.FnExactScatterPieces. -/
import Derived.Test.YtjeenjblenpinaaConvMap
import Derived.Test.YtjeenjblenpinaaConvMem
import Derived.Test.YtjeenjblenpinaaConvPiece
import Derived.Test.YtjeenjblenpinaaScatter
import Derived.Deep.RegionHeld3
namespace Go.Proofs.Ytjeenjblenpinaa
set_option linter.unusedSimpArgs false
set_option linter.unusedVariables false
open Go.RowKit Go.ChangeShapes Go.WideShapes
set_option maxRecDepth 100000 in
set_option maxHeartbeats 8000000 in
theorem fnExactScatterPieces_walk (A : Option Addr) (n c : Nat) (l : List Mapping) (A' : Option Addr) (n' c' : Nat) (l' : List ByteArray) (d : Int) (A3 : Option Addr) (n3 c3 : Nat) (l3 : List Piece) (s : ByteArray) (w : World) (hs : SlMapping w A n c l) (hs' : SlStr w A' n' c' l') (q0 : I64 d) (hs3 : SlPiece w A3 n3 c3 l3) (q5 : s.size ≤ maxLen) :
    Calls Try.prog 7 #[.slice A n c, .agg #[.slice A' n' c'], .int .i64 d, .slice A3 n3 c3, .string s] w fun e w' => e = .returned (.bool true) ∧ Below w.heap.size w w' := by
  obtain ⟨⟨hn_a, hnc_a, hc_a, r_a⟩, hb_a⟩ := hs
  obtain ⟨⟨hn_b, hnc_b, hc_b, r_b⟩, hb_b⟩ := hs'
  obtain ⟨⟨hn_p, hnc_p, hc_p, r_p⟩, hb_p⟩ := hs3
  unfold maxLen at q5
  by_cases hbig : 1048576 < s.size
  · go_enter Try.func7, Try.ntmps7
    go_wp2
    go_ret
    exact ⟨rfl, by go_grown⟩
  · have hspec := fun A c A' c' A3 c3 w => fun (hm : n ≤ 1048576) (hm' : n' ≤ 1048576) (hm3 : n3 ≤ 1048576) hr hr' hr3 => specScatterPieces_c A A' A3 n c n' c' n3 c3 l l' l3 w hn_a hn_b hn_p hm hm' hm3 hr hr' hr3 d hb_p s (by omega)
    have himpl := fun A c A' c' A3 c3 w => fun (hm : n ≤ 1048576) (hm' : n' ≤ 1048576) (hm3 : n3 ≤ 1048576) hr hr' hr3 => implScatterPieces_c A A' A3 n c n' c' n3 c3 l l' l3 w hn_a hn_b hn_p hm hm' hm3 hr hr' hr3 d hb_p s (by omega)
    have hn_v := scatM_len (l := l) (pg := l') (d := d) (ps := l3) (s := s)
    rw [hn_b] at hn_v
    generalize scatM l l' d l3 s = lw at *
    generalize scatB l l' d l3 s = bo at *
    have ht_b := totS_nonneg l'
    by_cases hz_a : (1048576 : Int) - n < 0
    · skip
      have hi_a := Lib.hid (szI_neg hz_a)
      go_enter Try.func7, Try.ntmps7
      go_wp2_with fail
      have k0 : Below w.heap.size w (w.alloc (.cells #[.slice A' n' c'] 25)) := by go_grown
      have bx0_0 : (w.alloc (.cells #[.slice A' n' c'] 25)).cell? ⟨w.heap.size, 0, none⟩ = some (.slice A' n' c') := by simp [go_sem]
      have bl0 : w.heap.size < (w.alloc (.cells #[.slice A' n' c'] 25)).heap.size := by go_size
      have r_a := r_a.below k0
      have r_b := r_b.below k0
      have r_p := r_p.below k0
      have p0 := k0.size
      generalize hW0 : (w.alloc (.cells #[.slice A' n' c'] 25)) = w0 at *
      clear hW0
      refine (szMappingS_c2 _ _ _ (1048576 : Int) _ (by omega) (by omega) (by omega)).mono ?_
      rintro e w_ ⟨rfl, rfl⟩
      rw [hi_a.out]
      go_wp2
      go_ret
      exact ⟨rfl, k0⟩
    have hi_a := Lib.hid (szI_nn hz_a)
    by_cases hz_b : ((1048576 : Int) - n) - n' - totS l' < 0
    · skip
      have hi_b := Lib.hid (szI_neg hz_b)
      go_enter Try.func7, Try.ntmps7
      go_wp2_with fail
      have k0 : Below w.heap.size w (w.alloc (.cells #[.slice A' n' c'] 25)) := by go_grown
      have bx0_0 : (w.alloc (.cells #[.slice A' n' c'] 25)).cell? ⟨w.heap.size, 0, none⟩ = some (.slice A' n' c') := by simp [go_sem]
      have bl0 : w.heap.size < (w.alloc (.cells #[.slice A' n' c'] 25)).heap.size := by go_size
      have r_a := r_a.below k0
      have r_b := r_b.below k0
      have r_p := r_p.below k0
      have p0 := k0.size
      generalize hW0 : (w.alloc (.cells #[.slice A' n' c'] 25)) = w0 at *
      clear hW0
      refine (szMappingS_c2 _ _ _ (1048576 : Int) _ (by omega) (by omega) (by omega)).mono ?_
      rintro e w_ ⟨rfl, rfl⟩
      rw [hi_a.out]
      go_wp2_with fail
      refine (szMemory_c _ _ _ l' ((1048576 : Int) - n) _ (by omega) (by omega) hn_b (by omega) (r_b.more (by omega)) hb_b).mono ?_
      rintro e w1 ⟨rfl, hb⟩
      have k1 : Below w.heap.size w w1 := ext_step k0 (by omega) hb
      have p1 := hb.size
      have bx0_0 := ccell hb _ _ _ bx0_0
      have bl0 := Nat.lt_of_lt_of_le bl0 hb.size
      have r_a := r_a.below (hb.mono (by omega))
      have r_b := r_b.below (hb.mono (by omega))
      have r_p := r_p.below (hb.mono (by omega))
      rw [hi_b.out]
      clear hb
      go_wp2
      go_ret
      exact ⟨rfl, k1⟩
    have hi_b := Lib.hid (szI_nn hz_b)
    by_cases hz_p : (((1048576 : Int) - n) - n' - totS l') - n3 < 0
    · skip
      have hi_p := Lib.hid (szI_neg hz_p)
      go_enter Try.func7, Try.ntmps7
      go_wp2_with fail
      have k0 : Below w.heap.size w (w.alloc (.cells #[.slice A' n' c'] 25)) := by go_grown
      have bx0_0 : (w.alloc (.cells #[.slice A' n' c'] 25)).cell? ⟨w.heap.size, 0, none⟩ = some (.slice A' n' c') := by simp [go_sem]
      have bl0 : w.heap.size < (w.alloc (.cells #[.slice A' n' c'] 25)).heap.size := by go_size
      have r_a := r_a.below k0
      have r_b := r_b.below k0
      have r_p := r_p.below k0
      have p0 := k0.size
      generalize hW0 : (w.alloc (.cells #[.slice A' n' c'] 25)) = w0 at *
      clear hW0
      refine (szMappingS_c2 _ _ _ (1048576 : Int) _ (by omega) (by omega) (by omega)).mono ?_
      rintro e w_ ⟨rfl, rfl⟩
      rw [hi_a.out]
      go_wp2_with fail
      refine (szMemory_c _ _ _ l' ((1048576 : Int) - n) _ (by omega) (by omega) hn_b (by omega) (r_b.more (by omega)) hb_b).mono ?_
      rintro e w1 ⟨rfl, hb⟩
      have k1 : Below w.heap.size w w1 := ext_step k0 (by omega) hb
      have p1 := hb.size
      have bx0_0 := ccell hb _ _ _ bx0_0
      have bl0 := Nat.lt_of_lt_of_le bl0 hb.size
      have r_a := r_a.below (hb.mono (by omega))
      have r_b := r_b.below (hb.mono (by omega))
      have r_p := r_p.below (hb.mono (by omega))
      rw [hi_b.out]
      clear hb
      go_wp2_with fail
      refine (szPieceS_c2 _ _ _ (((1048576 : Int) - n) - n' - totS l') _ (by omega) (by omega) (by omega)).mono ?_
      rintro e w_ ⟨rfl, rfl⟩
      rw [hi_p.out]
      go_wp2
      go_ret
      exact ⟨rfl, k1⟩
    have hi_p := Lib.hid (szI_nn hz_p)
    go_enter Try.func7, Try.ntmps7
    go_wp2_with fail
    have k0 : Below w.heap.size w (w.alloc (.cells #[.slice A' n' c'] 25)) := by go_grown
    have bx0_0 : (w.alloc (.cells #[.slice A' n' c'] 25)).cell? ⟨w.heap.size, 0, none⟩ = some (.slice A' n' c') := by simp [go_sem]
    have bl0 : w.heap.size < (w.alloc (.cells #[.slice A' n' c'] 25)).heap.size := by go_size
    have r_a := r_a.below k0
    have r_b := r_b.below k0
    have r_p := r_p.below k0
    have p0 := k0.size
    generalize hW0 : (w.alloc (.cells #[.slice A' n' c'] 25)) = w0 at *
    clear hW0
    refine (szMappingS_c2 _ _ _ (1048576 : Int) _ (by omega) (by omega) (by omega)).mono ?_
    rintro e w_ ⟨rfl, rfl⟩
    rw [hi_a.out]
    go_wp2_with fail
    refine (szMemory_c _ _ _ l' ((1048576 : Int) - n) _ (by omega) (by omega) hn_b (by omega) (r_b.more (by omega)) hb_b).mono ?_
    rintro e w1 ⟨rfl, hb⟩
    have k1 : Below w.heap.size w w1 := ext_step k0 (by omega) hb
    have p1 := hb.size
    have bx0_0 := ccell hb _ _ _ bx0_0
    have bl0 := Nat.lt_of_lt_of_le bl0 hb.size
    have r_a := r_a.below (hb.mono (by omega))
    have r_b := r_b.below (hb.mono (by omega))
    have r_p := r_p.below (hb.mono (by omega))
    rw [hi_b.out]
    clear hb
    go_wp2_with fail
    refine (szPieceS_c2 _ _ _ (((1048576 : Int) - n) - n' - totS l') _ (by omega) (by omega) (by omega)).mono ?_
    rintro e w_ ⟨rfl, rfl⟩
    rw [hi_p.out]
    have hs_a : n ≤ 1048576 := by omega
    have hs_b : n' ≤ 1048576 := by omega
    have hs_p : n3 ≤ 1048576 := by omega
    go_wp2_with fail
    refine wp_region_slotsS (w1.heap.size) [(43, fun _ v => v = .slice A n c), (44, RowP w1.heap.size 77 4 n (l.flatMap Mapping.cells) (fun A c => .slice A n c)), (45, fun _ v => v = .agg #[.slice A' n' c']), (46, RowP w1.heap.size 9 1 n' (l'.flatMap fun x : ByteArray => [Value.string x]) (fun A c => .agg #[.slice A n' c])), (47, fun _ v => v = .int .i64 d), (48, fun _ v => v = .slice A3 n3 c3), (49, RowP w1.heap.size 88 2 n3 (l3.flatMap Piece.cells) (fun A c => .slice A n3 c)), (50, fun _ v => v = .string s), (51, RowP w1.heap.size 9 1 n' (lw.flatMap fun x : ByteArray => [Value.string x]) (fun A c => .tuple #[.agg #[.slice A n' c], .bool bo])), (42, RowP w1.heap.size 9 1 n' (lw.flatMap fun x : ByteArray => [Value.string x]) (fun A c => .tuple #[.agg #[.slice A n' c], .bool bo])), (52, RowP w1.heap.size 9 1 n' (lw.flatMap fun x : ByteArray => [Value.string x]) (fun A c => .agg #[.slice A n' c])), (53, fun _ v => v = .bool bo), (12, BoxP w1.heap.size 32 1), (13, fun _ v => v = .bool bo)] [⟨13, 12, fun _ => True, StoR w1.heap.size 32 9 1 n' (lw.flatMap fun x : ByteArray => [Value.string x]) (fun A c => [.slice A n' c])⟩] (fun _ => True) (by kernel_rfl) (by omega) (by kernel_rfl) (by kernel_rfl) (by kernel_rfl) (by kernel_rfl) ?_ ?_ ?_ ?_ ?_ ?_ ?_
    · intro p hp
      simp only [List.mem_cons, List.not_mem_nil, or_false] at hp
      rcases hp with rfl | rfl | rfl | rfl | rfl | rfl | rfl | rfl | rfl | rfl | rfl | rfl | rfl | rfl
      all_goals (intro u u' v hb hv; first | exact hv | exact BoxP.keep hv hb | exact RowP.keep hv hb)
    · intro s hs u u' hb
      simp only [List.mem_cons, List.not_mem_nil, or_false] at hs
      rcases hs with rfl
      all_goals (refine ⟨fun h => ?_, fun _ h => ?_⟩ <;> first | exact h | exact StoP.keep h hb | exact StoR.keep h hb | exact Blk.ext h hb | exact StaR.keep h hb)
    · intro s hs
      simp only [List.mem_cons, List.not_mem_nil, or_false] at hs
      rcases hs with rfl
      all_goals first | trivial
    · exact trivial
    · intro u u' hb hj
      exact trivial
    · intro hGk hSk hJk
      refine allStep_cons (stepS_plain hGk hSk (by omega) hJk (by kernel_rfl) rfl ?_) ?_
      · intro a u hb hz hj hl hp K Q hK
        have e0 : a.tmps[0]?.getD undef = .slice A n c := gd (hl 0 (by kernel_rfl))
        go_simp
        exact hK _ _ (Below.refl _ _) (by intro d hd; cases hd; exact rfl)
      refine allStep_cons (stepS_plain hGk hSk (by omega) hJk (by kernel_rfl) rfl ?_) ?_
      · intro a u hb hz hj hl hp K Q hK
        have e43 : a.tmps[43]?.getD undef = .slice A n c := gd (hl 43 (by kernel_rfl))
        go_simp
        refine (toMappingS_c _ _ _ l _ hn_a hs_a ((r_a.below (hb.mono (by omega))).more (by omega))).mono ?_
        rintro e u1 ⟨g, rfl, hg, bb, hb1⟩
        exact hK _ _ hb1 (by intro d hd; cases hd; exact ⟨_, _, rfl, bb.own (base := w1.heap.size) (size := 4) (n := n) (by omega) (by rw [flatMap_len _ 4 (fun _ => rfl), hn_a]) (by unfold maxLen; omega) rfl⟩)
      refine allStep_cons (stepS_plain hGk hSk (by omega) hJk (by kernel_rfl) rfl ?_) ?_
      · intro a u hb hz hj hl hp K Q hK
        have e6 : a.tmps[6]?.getD undef = .pointer (some ⟨w.heap.size, 0, none⟩) := gd (hl 6 (by kernel_rfl))
        have bx0_0 := ccell hb _ _ _ bx0_0
        go_simp
        exact hK _ _ (Below.refl _ _) (by intro d hd; cases hd; exact rfl)
      refine allStep_cons (stepS_plain hGk hSk (by omega) hJk (by kernel_rfl) rfl ?_) ?_
      · intro a u hb hz hj hl hp K Q hK
        have e45 : a.tmps[45]?.getD undef = .agg #[.slice A' n' c'] := gd (hl 45 (by kernel_rfl))
        go_simp
        refine (toMemory_c _ _ _ l' _ hn_b hs_b ((r_b.below (hb.mono (by omega))).more (by omega))).mono ?_
        rintro e u1 ⟨g, rfl, hg, bb, hb1⟩
        exact hK _ _ hb1 (by intro d hd; cases hd; exact ⟨_, _, rfl, bb.own (base := w1.heap.size) (size := 1) (n := n') (by omega) (by rw [flatMap_len _ 1 (fun _ => rfl), hn_b]) (by unfold maxLen; omega) rfl⟩)
      refine allStep_cons (stepS_plain hGk hSk (by omega) hJk (by kernel_rfl) rfl ?_) ?_
      · intro a u hb hz hj hl hp K Q hK
        have e2 : a.tmps[2]?.getD undef = .int .i64 d := gd (hl 2 (by kernel_rfl))
        go_simp
        exact hK _ _ (Below.refl _ _) (by intro d hd; cases hd; exact rfl)
      refine allStep_cons (stepS_plain hGk hSk (by omega) hJk (by kernel_rfl) rfl ?_) ?_
      · intro a u hb hz hj hl hp K Q hK
        have e3 : a.tmps[3]?.getD undef = .slice A3 n3 c3 := gd (hl 3 (by kernel_rfl))
        go_simp
        exact hK _ _ (Below.refl _ _) (by intro d hd; cases hd; exact rfl)
      refine allStep_cons (stepS_plain hGk hSk (by omega) hJk (by kernel_rfl) rfl ?_) ?_
      · intro a u hb hz hj hl hp K Q hK
        have e48 : a.tmps[48]?.getD undef = .slice A3 n3 c3 := gd (hl 48 (by kernel_rfl))
        go_simp
        refine (toPieceS_c _ _ _ l3 _ hn_p hs_p ((r_p.below (hb.mono (by omega))).more (by omega))).mono ?_
        rintro e u1 ⟨g, rfl, hg, bb, hb1⟩
        exact hK _ _ hb1 (by intro d hd; cases hd; exact ⟨_, _, rfl, bb.own (base := w1.heap.size) (size := 2) (n := n3) (by omega) (by rw [flatMap_len _ 2 (fun _ => rfl), hn_p]) (by unfold maxLen; omega) rfl⟩)
      refine allStep_cons (stepS_plain hGk hSk (by omega) hJk (by kernel_rfl) rfl ?_) ?_
      · intro a u hb hz hj hl hp K Q hK
        have e4 : a.tmps[4]?.getD undef = .string s := gd (hl 4 (by kernel_rfl))
        go_simp
        exact hK _ _ (Below.refl _ _) (by intro d hd; cases hd; exact rfl)
      refine allStep_cons (stepS_plain hGk hSk (by omega) hJk (by kernel_rfl) rfl ?_) ?_
      · intro a u hb hz hj hl hp K Q hK
        obtain ⟨A1, c1, ex44, o1⟩ : RowP w1.heap.size 77 4 n (l.flatMap Mapping.cells) (fun A c => .slice A n c) u (a.tmps.getD 44 undef) := hl 44 (by kernel_rfl)
        have e44 := gd ex44
        obtain ⟨A2, c2, ex46, o2⟩ : RowP w1.heap.size 9 1 n' (l'.flatMap fun x : ByteArray => [Value.string x]) (fun A c => .agg #[.slice A n' c]) u (a.tmps.getD 46 undef) := hl 46 (by kernel_rfl)
        have e46 := gd ex46
        have e47 : a.tmps[47]?.getD undef = .int .i64 d := gd (hl 47 (by kernel_rfl))
        obtain ⟨A4, c4, ex49, o4⟩ : RowP w1.heap.size 88 2 n3 (l3.flatMap Piece.cells) (fun A c => .slice A n3 c) u (a.tmps.getD 49 undef) := hl 49 (by kernel_rfl)
        have e49 := gd ex49
        have e50 : a.tmps[50]?.getD undef = .string s := gd (hl 50 (by kernel_rfl))
        go_simp
        refine (hspec _ _ _ _ _ _ _ hs_a hs_b hs_p (Reads.of_own o1) (Reads.of_own o2) (Reads.of_own o4)).mono ?_
        rintro e u1 ⟨A_v, c_v, rfl, o_v, hb1⟩
        exact hK _ _ hb1 (by intro d hd; cases hd; exact ⟨A_v, c_v, rfl, own_base o_v (by omega)⟩)
      refine allStep_cons (stepS_plain hGk hSk (by omega) hJk (by kernel_rfl) rfl ?_) ?_
      · intro a u hb hz hj hl hp K Q hK
        obtain ⟨A1, c1, ex51, o1⟩ : RowP w1.heap.size 9 1 n' (lw.flatMap fun x : ByteArray => [Value.string x]) (fun A c => .tuple #[.agg #[.slice A n' c], .bool bo]) u (a.tmps.getD 51 undef) := hl 51 (by kernel_rfl)
        have e51 := gd ex51
        go_simp
        exact hK _ _ (Below.refl _ _) (by intro d hd; cases hd; exact ⟨A1, c1, rfl, o1⟩)
      refine allStep_cons (stepS_plain hGk hSk (by omega) hJk (by kernel_rfl) rfl ?_) ?_
      · intro a u hb hz hj hl hp K Q hK
        obtain ⟨A1, c1, ex42, o1⟩ : RowP w1.heap.size 9 1 n' (lw.flatMap fun x : ByteArray => [Value.string x]) (fun A c => .tuple #[.agg #[.slice A n' c], .bool bo]) u (a.tmps.getD 42 undef) := hl 42 (by kernel_rfl)
        have e42 := gd ex42
        go_simp
        exact hK _ _ (Below.refl _ _) (by intro d hd; cases hd; exact ⟨A1, c1, rfl, o1⟩)
      refine allStep_cons (stepS_plain hGk hSk (by omega) hJk (by kernel_rfl) rfl ?_) ?_
      · intro a u hb hz hj hl hp K Q hK
        obtain ⟨A1, c1, ex42, o1⟩ : RowP w1.heap.size 9 1 n' (lw.flatMap fun x : ByteArray => [Value.string x]) (fun A c => .tuple #[.agg #[.slice A n' c], .bool bo]) u (a.tmps.getD 42 undef) := hl 42 (by kernel_rfl)
        have e42 := gd ex42
        go_simp
        exact hK _ _ (Below.refl _ _) (by intro d hd; cases hd; exact rfl)
      refine allStep_cons (stepS_plain hGk hSk (by omega) hJk (by kernel_rfl) rfl ?_) ?_
      · intro a u hb hz hj hl hp K Q hK
        go_simp
        exact hK _ _ (by go_grown) (by intro d hd; cases hd; exact BoxP.new _ _ [.slice none 0 0] (by omega) rfl)
      refine allStep_cons (stepS_store (Chg w1.heap.size 32) (fun _ _ hc hb => hc.below' (by omega) hb) (fun _ _ hc => hc.size) (hold_rel ?_) ?_ ?_ rfl rfl ?_) ?_
      · intro p hp
        simp only [List.mem_cons, List.not_mem_nil, or_false] at hp
        rcases hp with rfl | rfl | rfl | rfl | rfl | rfl | rfl | rfl | rfl | rfl | rfl | rfl | rfl | rfl
        all_goals (intro u u' v hb hv; first | exact hv | exact BoxP.chg hv hb | exact RowP.chg hv hb (by decide))
      · intro s hs hne u u' hb
        simp only [List.mem_cons, List.not_mem_nil, or_false] at hs
        rcases hs with rfl
        all_goals first | exact absurd (by rfl) hne | (refine ⟨fun h => ?_, fun _ h => ?_⟩ <;> first | exact h | exact StoP.chg h hb (by decide) | exact StoR.chg h hb (by decide) (by decide) | exact Blk.chgL h hb (by omega) | exact StaR.chgL h hb (by omega) (by decide))
      · intro u u' hb hj
        exact trivial
      · intro a u hb hz hj hl hp K Q hK
        obtain ⟨b, exb, hB, zs, hzl, hbk⟩ : BoxP w1.heap.size 32 1 u (a.tmps.getD 12 undef) := hl 12 (by kernel_rfl)
        have e12 := gd exb
        obtain ⟨A2, c2, ex52, o2⟩ : RowP w1.heap.size 9 1 n' (lw.flatMap fun x : ByteArray => [Value.string x]) (fun A c => .agg #[.slice A n' c]) u (a.tmps.getD 52 undef) := hl 52 (by kernel_rfl)
        have e52 := gd ex52
        obtain ⟨z0, rfl⟩ : ∃ z0, zs = [z0] := (by match zs, hzl with | [z0], _ => exact ⟨_, rfl⟩)
        have hlt := hbk.lt
        have g0 : u.cell? ⟨b, 0, none⟩ = some z0 := (hbk.cell 0).trans rfl
        have f0 := hbk.frozen 0
        go_simp
        refine hK undef _ ((Chg.refl _ _ _).set hbk hB 0 _) (fun s hs he => ?_)
        simp only [List.mem_cons, List.not_mem_nil, or_false] at hs
        rcases hs with rfl
        · exact ⟨b, A2, c2, exb, hB, (hbk.set_ 0 _), own_chg o2 ((Chg.refl _ _ _).set hbk hB 0 _) (by decide)⟩
      refine allStep_cons (stepS_plain hGk hSk (by omega) hJk (by kernel_rfl) rfl ?_) ?_
      · intro a u hb hz hj hl hp K Q hK
        have e53 : a.tmps[53]?.getD undef = .bool bo := gd (hl 53 (by kernel_rfl))
        go_simp
        exact hK _ _ (Below.refl _ _) (by intro d hd; cases hd; exact rfl)
      exact allStep_nil
    intro xT w2 hb hz hj hL hSt
    have fx13 : xT 13 = .bool bo := hL _ (List.mem_of_getElem? (i := 13) rfl)
    obtain ⟨bk_1, A_v, c_v, fx12, lo1, hk1, o_v⟩ : StoR w1.heap.size 32 9 1 n' (lw.flatMap fun x : ByteArray => [Value.string x]) (fun A c => [.slice A n' c]) w2 (xT 12) := hSt _ (List.mem_of_getElem? (i := 0) rfl)
    simp only [List.map, putAll, fx13, fx12]
    have bl1 := hk1.lt
    have bx1_0 : w2.cell? ⟨bk_1, 0, none⟩ = some (.slice A_v n' c_v) := (hk1.cell 0).trans rfl
    have k2 : Below w.heap.size w w2 := ext_step k1 (by omega) hb
    have p2 := hb.size
    have bx0_0 := ccell hb _ _ _ bx0_0
    have bl0 := Nat.lt_of_lt_of_le bl0 hb.size
    have r_a := r_a.below (hb.mono (by omega))
    have r_b := r_b.below (hb.mono (by omega))
    have r_p := r_p.below (hb.mono (by omega))
    have nb_v_1 := own_ty o_v hk1 (by decide)
    have r_v := Reads.of_own o_v
    have u_v := fun k hk => (o_v.lt k hk).2
    clear hL hSt hb hz fx13 fx12 hk1
    go_wp2_with fail
    refine (toMappingS_c _ _ _ l _ hn_a hs_a (r_a.more (by omega))).mono ?_
    rintro e w3 ⟨g_x, rfl, hg_x, b_x, hb⟩
    have k3 : Below w.heap.size w w3 := ext_step k2 (by omega) hb
    have p3 := hb.size
    have bx0_0 := ccell hb _ _ _ bx0_0
    have bx1_0 := ccell hb _ _ _ bx1_0
    have bl0 := Nat.lt_of_lt_of_le bl0 hb.size
    have bl1 := Nat.lt_of_lt_of_le bl1 hb.size
    have r_a := r_a.below (hb.mono (by omega))
    have r_b := r_b.below (hb.mono (by omega))
    have r_p := r_p.below (hb.mono (by omega))
    have r_v := r_v.below (hb.mono (by omega))
    have o_v := own_ext o_v hb
    have r_x := b_x.reads (size := 4) (n := n) (by rw [flatMap_len _ 4 (fun _ => rfl), hn_a])
    have o_x := b_x.own (base := w2.heap.size) (size := 4) (n := n) hg_x (by rw [flatMap_len _ 4 (fun _ => rfl), hn_a]) (by unfold maxLen; omega) rfl
    have u_x := fun k hk => (o_x.lt k hk).2
    clear hb
    go_wp2_with fail
    refine (toMemory_c _ _ _ l' _ hn_b hs_b (r_b.more (by omega))).mono ?_
    rintro e w4 ⟨g_y, rfl, hg_y, b_y, hb⟩
    have k4 : Below w.heap.size w w4 := ext_step k3 (by omega) hb
    have p4 := hb.size
    have bx0_0 := ccell hb _ _ _ bx0_0
    have bx1_0 := ccell hb _ _ _ bx1_0
    have bl0 := Nat.lt_of_lt_of_le bl0 hb.size
    have bl1 := Nat.lt_of_lt_of_le bl1 hb.size
    have r_a := r_a.below (hb.mono (by omega))
    have r_b := r_b.below (hb.mono (by omega))
    have r_p := r_p.below (hb.mono (by omega))
    have r_v := r_v.below (hb.mono (by omega))
    have o_v := own_ext o_v hb
    have r_x := r_x.below (hb.mono (by omega))
    have o_x := own_ext o_x hb
    have r_y := b_y.reads (size := 1) (n := n') (by rw [flatMap_len _ 1 (fun _ => rfl), hn_b])
    have o_y := b_y.own (base := w3.heap.size) (size := 1) (n := n') hg_y (by rw [flatMap_len _ 1 (fun _ => rfl), hn_b]) (by unfold maxLen; omega) rfl
    have u_y := fun k hk => (o_y.lt k hk).2
    clear hb
    go_wp2_with fail
    have hb : Below w4.heap.size w4 (w4.alloc (.cells #[.slice (some ⟨g_y, 0, none⟩) n' n'] 32)) := by go_grown
    have bx2_0 : (w4.alloc (.cells #[.slice (some ⟨g_y, 0, none⟩) n' n'] 32)).cell? ⟨w4.heap.size, 0, none⟩ = some (.slice (some ⟨g_y, 0, none⟩) n' n') := by simp [go_sem]
    have bl2 : w4.heap.size < (w4.alloc (.cells #[.slice (some ⟨g_y, 0, none⟩) n' n'] 32)).heap.size := by go_size
    generalize hW0 : (w4.alloc (.cells #[.slice (some ⟨g_y, 0, none⟩) n' n'] 32)) = w5 at *
    clear hW0
    have k5 : Below w.heap.size w w5 := ext_step k4 (by omega) hb
    have p5 := hb.size
    have bx0_0 := ccell hb _ _ _ bx0_0
    have bx1_0 := ccell hb _ _ _ bx1_0
    have bl0 := Nat.lt_of_lt_of_le bl0 hb.size
    have bl1 := Nat.lt_of_lt_of_le bl1 hb.size
    have r_a := r_a.below (hb.mono (by omega))
    have r_b := r_b.below (hb.mono (by omega))
    have r_p := r_p.below (hb.mono (by omega))
    have r_v := r_v.below (hb.mono (by omega))
    have o_v := own_ext o_v hb
    have r_x := r_x.below (hb.mono (by omega))
    have o_x := own_ext o_x hb
    have r_y := r_y.below (hb.mono (by omega))
    have o_y := own_ext o_y hb
    skip
    clear hb
    refine (toPieceS_c _ _ _ l3 _ hn_p hs_p (r_p.more (by omega))).mono ?_
    rintro e w6 ⟨g_q, rfl, hg_q, b_q, hb⟩
    have k6 : Below w.heap.size w w6 := ext_step k5 (by omega) hb
    have p6 := hb.size
    have bx0_0 := ccell hb _ _ _ bx0_0
    have bx1_0 := ccell hb _ _ _ bx1_0
    have bx2_0 := ccell hb _ _ _ bx2_0
    have bl0 := Nat.lt_of_lt_of_le bl0 hb.size
    have bl1 := Nat.lt_of_lt_of_le bl1 hb.size
    have bl2 := Nat.lt_of_lt_of_le bl2 hb.size
    have r_a := r_a.below (hb.mono (by omega))
    have r_b := r_b.below (hb.mono (by omega))
    have r_p := r_p.below (hb.mono (by omega))
    have r_v := r_v.below (hb.mono (by omega))
    have o_v := own_ext o_v hb
    have r_x := r_x.below (hb.mono (by omega))
    have o_x := own_ext o_x hb
    have r_y := r_y.below (hb.mono (by omega))
    have o_y := own_ext o_y hb
    have r_q := b_q.reads (size := 2) (n := n3) (by rw [flatMap_len _ 2 (fun _ => rfl), hn_p])
    have o_q := b_q.own (base := w5.heap.size) (size := 2) (n := n3) hg_q (by rw [flatMap_len _ 2 (fun _ => rfl), hn_p]) (by unfold maxLen; omega) rfl
    have u_q := fun k hk => (o_q.lt k hk).2
    clear hb
    go_wp2_with fail
    refine (himpl _ _ _ _ _ _ _ hs_a hs_b hs_p (r_x.more (by omega)) (r_y.more (by omega)) (r_q.more (by omega))).mono ?_
    rintro e w7 ⟨A_g, c_g, rfl, o_g, hb⟩
    have k7 : Below w.heap.size w w7 := ext_step k6 (by omega) hb
    have p7 := hb.size
    have bx0_0 := ccell hb _ _ _ bx0_0
    have bx1_0 := ccell hb _ _ _ bx1_0
    have bx2_0 := ccell hb _ _ _ bx2_0
    have bl0 := Nat.lt_of_lt_of_le bl0 hb.size
    have bl1 := Nat.lt_of_lt_of_le bl1 hb.size
    have bl2 := Nat.lt_of_lt_of_le bl2 hb.size
    have r_a := r_a.below (hb.mono (by omega))
    have r_b := r_b.below (hb.mono (by omega))
    have r_p := r_p.below (hb.mono (by omega))
    have r_v := r_v.below (hb.mono (by omega))
    have o_v := own_ext o_v hb
    have r_x := r_x.below (hb.mono (by omega))
    have o_x := own_ext o_x hb
    have r_y := r_y.below (hb.mono (by omega))
    have o_y := own_ext o_y hb
    have r_q := r_q.below (hb.mono (by omega))
    have o_q := own_ext o_q hb
    have r_g := Reads.of_own o_g
    have u_g := fun k hk => (o_g.lt k hk).2
    clear hb
    go_wp2_with fail
    have hb : Below w7.heap.size w7 (w7.alloc (.cells #[.slice A_g n' c_g] 32)) := by go_grown
    have bx3_0 : (w7.alloc (.cells #[.slice A_g n' c_g] 32)).cell? ⟨w7.heap.size, 0, none⟩ = some (.slice A_g n' c_g) := by simp [go_sem]
    have bl3 : w7.heap.size < (w7.alloc (.cells #[.slice A_g n' c_g] 32)).heap.size := by go_size
    generalize hW0 : (w7.alloc (.cells #[.slice A_g n' c_g] 32)) = w8 at *
    clear hW0
    have k8 : Below w.heap.size w w8 := ext_step k7 (by omega) hb
    have p8 := hb.size
    have bx0_0 := ccell hb _ _ _ bx0_0
    have bx1_0 := ccell hb _ _ _ bx1_0
    have bx2_0 := ccell hb _ _ _ bx2_0
    have bl0 := Nat.lt_of_lt_of_le bl0 hb.size
    have bl1 := Nat.lt_of_lt_of_le bl1 hb.size
    have bl2 := Nat.lt_of_lt_of_le bl2 hb.size
    have r_a := r_a.below (hb.mono (by omega))
    have r_b := r_b.below (hb.mono (by omega))
    have r_p := r_p.below (hb.mono (by omega))
    have r_v := r_v.below (hb.mono (by omega))
    have o_v := own_ext o_v hb
    have r_x := r_x.below (hb.mono (by omega))
    have o_x := own_ext o_x hb
    have r_y := r_y.below (hb.mono (by omega))
    have o_y := own_ext o_y hb
    have r_q := r_q.below (hb.mono (by omega))
    have o_q := own_ext o_q hb
    have r_g := r_g.below (hb.mono (by omega))
    have o_g := own_ext o_g hb
    skip
    clear hb
    refine (eqMemory_c _ _ _ _ _ lw _ hn_v (by omega) (r_g.more (by omega)) (r_v.more (by omega))).mono ?_
    rintro e w9 ⟨rfl, hb⟩
    have k9 : Below w.heap.size w w9 := ext_step k8 (by omega) hb
    have p9 := hb.size
    have bx0_0 := ccell hb _ _ _ bx0_0
    have bx1_0 := ccell hb _ _ _ bx1_0
    have bx2_0 := ccell hb _ _ _ bx2_0
    have bx3_0 := ccell hb _ _ _ bx3_0
    have bl0 := Nat.lt_of_lt_of_le bl0 hb.size
    have bl1 := Nat.lt_of_lt_of_le bl1 hb.size
    have bl2 := Nat.lt_of_lt_of_le bl2 hb.size
    have bl3 := Nat.lt_of_lt_of_le bl3 hb.size
    have r_a := r_a.below (hb.mono (by omega))
    have r_b := r_b.below (hb.mono (by omega))
    have r_p := r_p.below (hb.mono (by omega))
    have r_v := r_v.below (hb.mono (by omega))
    have o_v := own_ext o_v hb
    have r_x := r_x.below (hb.mono (by omega))
    have o_x := own_ext o_x hb
    have r_y := r_y.below (hb.mono (by omega))
    have o_y := own_ext o_y hb
    have r_q := r_q.below (hb.mono (by omega))
    have o_q := own_ext o_q hb
    have r_g := r_g.below (hb.mono (by omega))
    have o_g := own_ext o_g hb
    clear hb
    go_wp2_with fail
    refine (toMappingS_c _ _ _ l _ hn_a hs_a (r_a.more (by omega))).mono ?_
    rintro e w10 ⟨g_z, rfl, hg_z, b_z, hb⟩
    have k10 : Below w.heap.size w w10 := ext_step k9 (by omega) hb
    have p10 := hb.size
    have bx0_0 := ccell hb _ _ _ bx0_0
    have bx1_0 := ccell hb _ _ _ bx1_0
    have bx2_0 := ccell hb _ _ _ bx2_0
    have bx3_0 := ccell hb _ _ _ bx3_0
    have bl0 := Nat.lt_of_lt_of_le bl0 hb.size
    have bl1 := Nat.lt_of_lt_of_le bl1 hb.size
    have bl2 := Nat.lt_of_lt_of_le bl2 hb.size
    have bl3 := Nat.lt_of_lt_of_le bl3 hb.size
    have r_a := r_a.below (hb.mono (by omega))
    have r_b := r_b.below (hb.mono (by omega))
    have r_p := r_p.below (hb.mono (by omega))
    have r_v := r_v.below (hb.mono (by omega))
    have o_v := own_ext o_v hb
    have r_x := r_x.below (hb.mono (by omega))
    have o_x := own_ext o_x hb
    have r_y := r_y.below (hb.mono (by omega))
    have o_y := own_ext o_y hb
    have r_q := r_q.below (hb.mono (by omega))
    have o_q := own_ext o_q hb
    have r_g := r_g.below (hb.mono (by omega))
    have o_g := own_ext o_g hb
    have r_z := b_z.reads (size := 4) (n := n) (by rw [flatMap_len _ 4 (fun _ => rfl), hn_a])
    have o_z := b_z.own (base := w9.heap.size) (size := 4) (n := n) hg_z (by rw [flatMap_len _ 4 (fun _ => rfl), hn_a]) (by unfold maxLen; omega) rfl
    have u_z := fun k hk => (o_z.lt k hk).2
    clear hb
    go_wp2_with fail
    refine (eqMappingS_c _ _ _ _ _ l _ hn_a (by omega) (r_x.more (by omega)) (r_z.more (by omega))).mono ?_
    rintro e w11 ⟨rfl, hb⟩
    have k11 : Below w.heap.size w w11 := ext_step k10 (by omega) hb
    have p11 := hb.size
    have bx0_0 := ccell hb _ _ _ bx0_0
    have bx1_0 := ccell hb _ _ _ bx1_0
    have bx2_0 := ccell hb _ _ _ bx2_0
    have bx3_0 := ccell hb _ _ _ bx3_0
    have bl0 := Nat.lt_of_lt_of_le bl0 hb.size
    have bl1 := Nat.lt_of_lt_of_le bl1 hb.size
    have bl2 := Nat.lt_of_lt_of_le bl2 hb.size
    have bl3 := Nat.lt_of_lt_of_le bl3 hb.size
    have r_a := r_a.below (hb.mono (by omega))
    have r_b := r_b.below (hb.mono (by omega))
    have r_p := r_p.below (hb.mono (by omega))
    have r_v := r_v.below (hb.mono (by omega))
    have o_v := own_ext o_v hb
    have r_x := r_x.below (hb.mono (by omega))
    have o_x := own_ext o_x hb
    have r_y := r_y.below (hb.mono (by omega))
    have o_y := own_ext o_y hb
    have r_q := r_q.below (hb.mono (by omega))
    have o_q := own_ext o_q hb
    have r_g := r_g.below (hb.mono (by omega))
    have o_g := own_ext o_g hb
    have r_z := r_z.below (hb.mono (by omega))
    have o_z := own_ext o_z hb
    clear hb
    go_wp2_with fail
    go_region_held3 (fun w' => w'.cell? ⟨w4.heap.size, 0, none⟩ = some (.slice (some ⟨g_y, 0, none⟩) n' n') ∧ w'.cell? ⟨w.heap.size, 0, none⟩ = some (.slice A' n' c')) (exact ⟨bx2_0, bx0_0⟩)
      (first
        | (go_at_call 19; have hb : Below w11.heap.size w11 w11.drew := (Below.refl _ _).drew; generalize hW0 : w11.drew = w12 at *; clear hW0; have k12 : Below w.heap.size w w12 := ext_step k11 (by omega) hb; have p12 := hb.size; have bx0_0 := ccell hb _ _ _ bx0_0; have bx1_0 := ccell hb _ _ _ bx1_0; have bx2_0 := ccell hb _ _ _ bx2_0; have bx3_0 := ccell hb _ _ _ bx3_0; have bl0 := Nat.lt_of_lt_of_le bl0 hb.size; have bl1 := Nat.lt_of_lt_of_le bl1 hb.size; have bl2 := Nat.lt_of_lt_of_le bl2 hb.size; have bl3 := Nat.lt_of_lt_of_le bl3 hb.size; have r_a := r_a.below (hb.mono (by omega)); have r_b := r_b.below (hb.mono (by omega)); have r_p := r_p.below (hb.mono (by omega)); have r_v := r_v.below (hb.mono (by omega)); have o_v := own_ext o_v hb; have r_x := r_x.below (hb.mono (by omega)); have o_x := own_ext o_x hb; have r_y := r_y.below (hb.mono (by omega)); have o_y := own_ext o_y hb; have r_q := r_q.below (hb.mono (by omega)); have o_q := own_ext o_q hb; have r_g := r_g.below (hb.mono (by omega)); have o_g := own_ext o_g hb; clear hb; refine (toMemory_c _ _ _ l' _ hn_b hs_b (r_b.more (by omega))).mono ?_; rintro e w13 ⟨g_z, rfl, hg_z, b_z, hb⟩; have k13 : Below w.heap.size w w13 := ext_step k12 (by omega) hb; have p13 := hb.size; have bx0_0 := ccell hb _ _ _ bx0_0; have bx1_0 := ccell hb _ _ _ bx1_0; have bx2_0 := ccell hb _ _ _ bx2_0; have bx3_0 := ccell hb _ _ _ bx3_0; have bl0 := Nat.lt_of_lt_of_le bl0 hb.size; have bl1 := Nat.lt_of_lt_of_le bl1 hb.size; have bl2 := Nat.lt_of_lt_of_le bl2 hb.size; have bl3 := Nat.lt_of_lt_of_le bl3 hb.size; have r_a := r_a.below (hb.mono (by omega)); have r_b := r_b.below (hb.mono (by omega)); have r_p := r_p.below (hb.mono (by omega)); have r_v := r_v.below (hb.mono (by omega)); have o_v := own_ext o_v hb; have r_x := r_x.below (hb.mono (by omega)); have o_x := own_ext o_x hb; have r_y := r_y.below (hb.mono (by omega)); have o_y := own_ext o_y hb; have r_q := r_q.below (hb.mono (by omega)); have o_q := own_ext o_q hb; have r_g := r_g.below (hb.mono (by omega)); have o_g := own_ext o_g hb; have r_z := b_z.reads (size := 1) (n := n') (by rw [flatMap_len _ 1 (fun _ => rfl), hn_b]); have o_z := b_z.own (base := w12.heap.size) (size := 1) (n := n') hg_z (by rw [flatMap_len _ 1 (fun _ => rfl), hn_b]) (by unfold maxLen; omega) rfl; have u_z := fun k hk => (o_z.lt k hk).2; clear hb)
        | (go_at_call 22; refine (eqMemory_c _ _ _ _ _ l' _ hn_b (by omega) (r_y.more (by omega)) (r_z.more (by omega))).mono ?_; rintro e w14 ⟨rfl, hb⟩; have k14 : Below w.heap.size w w14 := ext_step k13 (by omega) hb; have p14 := hb.size; have bx0_0 := ccell hb _ _ _ bx0_0; have bx1_0 := ccell hb _ _ _ bx1_0; have bx2_0 := ccell hb _ _ _ bx2_0; have bx3_0 := ccell hb _ _ _ bx3_0; have bl0 := Nat.lt_of_lt_of_le bl0 hb.size; have bl1 := Nat.lt_of_lt_of_le bl1 hb.size; have bl2 := Nat.lt_of_lt_of_le bl2 hb.size; have bl3 := Nat.lt_of_lt_of_le bl3 hb.size; have r_a := r_a.below (hb.mono (by omega)); have r_b := r_b.below (hb.mono (by omega)); have r_p := r_p.below (hb.mono (by omega)); have r_v := r_v.below (hb.mono (by omega)); have o_v := own_ext o_v hb; have r_x := r_x.below (hb.mono (by omega)); have o_x := own_ext o_x hb; have r_y := r_y.below (hb.mono (by omega)); have o_y := own_ext o_y hb; have r_q := r_q.below (hb.mono (by omega)); have o_q := own_ext o_q hb; have r_g := r_g.below (hb.mono (by omega)); have o_g := own_ext o_g hb; have r_z := r_z.below (hb.mono (by omega)); have o_z := own_ext o_z hb; clear hb))
    go_wp2_with fail
    refine (toPieceS_c _ _ _ l3 _ hn_p hs_p (r_p.more (by omega))).mono ?_
    rintro e w15 ⟨g_z, rfl, hg_z, b_z, hb⟩
    have k15 : Below w.heap.size w w15 := ext_step k14 (by omega) hb
    have p15 := hb.size
    have bx0_0 := ccell hb _ _ _ bx0_0
    have bx1_0 := ccell hb _ _ _ bx1_0
    have bx2_0 := ccell hb _ _ _ bx2_0
    have bx3_0 := ccell hb _ _ _ bx3_0
    have bl0 := Nat.lt_of_lt_of_le bl0 hb.size
    have bl1 := Nat.lt_of_lt_of_le bl1 hb.size
    have bl2 := Nat.lt_of_lt_of_le bl2 hb.size
    have bl3 := Nat.lt_of_lt_of_le bl3 hb.size
    have r_a := r_a.below (hb.mono (by omega))
    have r_b := r_b.below (hb.mono (by omega))
    have r_p := r_p.below (hb.mono (by omega))
    have r_v := r_v.below (hb.mono (by omega))
    have o_v := own_ext o_v hb
    have r_x := r_x.below (hb.mono (by omega))
    have o_x := own_ext o_x hb
    have r_y := r_y.below (hb.mono (by omega))
    have o_y := own_ext o_y hb
    have r_q := r_q.below (hb.mono (by omega))
    have o_q := own_ext o_q hb
    have r_g := r_g.below (hb.mono (by omega))
    have o_g := own_ext o_g hb
    have r_z := b_z.reads (size := 2) (n := n3) (by rw [flatMap_len _ 2 (fun _ => rfl), hn_p])
    have o_z := b_z.own (base := w14.heap.size) (size := 2) (n := n3) hg_z (by rw [flatMap_len _ 2 (fun _ => rfl), hn_p]) (by unfold maxLen; omega) rfl
    have u_z := fun k hk => (o_z.lt k hk).2
    clear hb
    go_wp2_with fail
    refine (eqPieceS_c _ _ _ _ _ l3 _ hn_p (by omega) (r_q.more (by omega)) (r_z.more (by omega))).mono ?_
    rintro e w16 ⟨rfl, hb⟩
    have k16 : Below w.heap.size w w16 := ext_step k15 (by omega) hb
    have p16 := hb.size
    have bx0_0 := ccell hb _ _ _ bx0_0
    have bx1_0 := ccell hb _ _ _ bx1_0
    have bx2_0 := ccell hb _ _ _ bx2_0
    have bx3_0 := ccell hb _ _ _ bx3_0
    have bl0 := Nat.lt_of_lt_of_le bl0 hb.size
    have bl1 := Nat.lt_of_lt_of_le bl1 hb.size
    have bl2 := Nat.lt_of_lt_of_le bl2 hb.size
    have bl3 := Nat.lt_of_lt_of_le bl3 hb.size
    have r_a := r_a.below (hb.mono (by omega))
    have r_b := r_b.below (hb.mono (by omega))
    have r_p := r_p.below (hb.mono (by omega))
    have r_v := r_v.below (hb.mono (by omega))
    have o_v := own_ext o_v hb
    have r_x := r_x.below (hb.mono (by omega))
    have o_x := own_ext o_x hb
    have r_y := r_y.below (hb.mono (by omega))
    have o_y := own_ext o_y hb
    have r_q := r_q.below (hb.mono (by omega))
    have o_q := own_ext o_q hb
    have r_g := r_g.below (hb.mono (by omega))
    have o_g := own_ext o_g hb
    have r_z := r_z.below (hb.mono (by omega))
    have o_z := own_ext o_z hb
    clear hb
    go_wp2_with fail
    refine (markMappingS_c _ _ _ _ _ _ _ o_x (by omega) (by omega) (by omega)).mono ?_
    rintro e w17 ⟨rfl, om, hg⟩
    have k17 : Below w.heap.size w w17 := below_app k16 (own_base o_x (by omega)) hg (by omega)
    have p17 := hg.size
    have bx0_0 := cell_off hg bx0_0 (fun g h1 => by have := (o_x.lt g h1).1; have := u_x g h1; omega)
    have bx1_0 := cell_off hg bx1_0 (fun g h1 => by have := (o_x.lt g h1).1; have := u_x g h1; omega)
    have bx2_0 := cell_off hg bx2_0 (fun g h1 => by have := (o_x.lt g h1).1; have := u_x g h1; omega)
    have bx3_0 := cell_off hg bx3_0 (fun g h1 => by have := (o_x.lt g h1).1; have := u_x g h1; omega)
    have bl0 := Nat.lt_of_lt_of_le bl0 hg.size
    have bl1 := Nat.lt_of_lt_of_le bl1 hg.size
    have bl2 := Nat.lt_of_lt_of_le bl2 hg.size
    have bl3 := Nat.lt_of_lt_of_le bl3 hg.size
    have r_a := r_a.grown hg (by omega) (fun g hg => Nat.le_trans (by omega) (o_x.lt g hg).1)
    have r_b := r_b.grown hg (by omega) (fun g hg => Nat.le_trans (by omega) (o_x.lt g hg).1)
    have r_p := r_p.grown hg (by omega) (fun g hg => Nat.le_trans (by omega) (o_x.lt g hg).1)
    have o_v := own_far o_v hg (fun g h1 h2 => by have := u_v g h1; have := (o_x.lt g h2).1; omega)
    have r_v := (Reads.of_own o_v)
    have o_y := own_far o_y hg (fun g h1 h2 => by have := (o_y.lt g h1).1; have := u_x g h2; omega)
    have r_y := (Reads.of_own o_y)
    have o_q := own_far o_q hg (fun g h1 h2 => by have := (o_q.lt g h1).1; have := u_x g h2; omega)
    have r_q := (Reads.of_own o_q)
    have o_g := own_far o_g hg (fun g h1 h2 => by have := (o_g.lt g h1).1; have := u_x g h2; omega)
    have r_g := (Reads.of_own o_g)
    have o_x := om
    have r_x := Reads.of_own o_x
    clear hg om
    go_wp2_with fail
    refine (markMemory_c _ _ _ _ _ _ _ o_y (by omega) (by omega) (by omega)).mono ?_
    rintro e w18 ⟨rfl, om, hg⟩
    have k18 : Below w.heap.size w w18 := below_app k17 (own_base o_y (by omega)) hg (by omega)
    have p18 := hg.size
    have bx0_0 := cell_off hg bx0_0 (fun g h1 => by have := (o_y.lt g h1).1; have := u_y g h1; omega)
    have bx1_0 := cell_off hg bx1_0 (fun g h1 => by have := (o_y.lt g h1).1; have := u_y g h1; omega)
    have bx2_0 := cell_off hg bx2_0 (fun g h1 => by have := (o_y.lt g h1).1; have := u_y g h1; omega)
    have bx3_0 := cell_off hg bx3_0 (fun g h1 => by have := (o_y.lt g h1).1; have := u_y g h1; omega)
    have bl0 := Nat.lt_of_lt_of_le bl0 hg.size
    have bl1 := Nat.lt_of_lt_of_le bl1 hg.size
    have bl2 := Nat.lt_of_lt_of_le bl2 hg.size
    have bl3 := Nat.lt_of_lt_of_le bl3 hg.size
    have r_a := r_a.grown hg (by omega) (fun g hg => Nat.le_trans (by omega) (o_y.lt g hg).1)
    have r_b := r_b.grown hg (by omega) (fun g hg => Nat.le_trans (by omega) (o_y.lt g hg).1)
    have r_p := r_p.grown hg (by omega) (fun g hg => Nat.le_trans (by omega) (o_y.lt g hg).1)
    have o_v := own_far o_v hg (fun g h1 h2 => by have := u_v g h1; have := (o_y.lt g h2).1; omega)
    have r_v := (Reads.of_own o_v)
    have o_q := own_far o_q hg (fun g h1 h2 => by have := (o_q.lt g h1).1; have := u_y g h2; omega)
    have r_q := (Reads.of_own o_q)
    have o_g := own_far o_g hg (fun g h1 h2 => by have := (o_g.lt g h1).1; have := u_y g h2; omega)
    have r_g := (Reads.of_own o_g)
    have o_y := om
    have r_y := Reads.of_own o_y
    clear hg om
    go_wp2_with fail
    refine (markPieceS_c _ _ _ _ _ _ _ o_q (by omega) (by omega) (by omega)).mono ?_
    rintro e w19 ⟨rfl, om, hg⟩
    have k19 : Below w.heap.size w w19 := below_app k18 (own_base o_q (by omega)) hg (by omega)
    have p19 := hg.size
    have bx0_0 := cell_off hg bx0_0 (fun g h1 => by have := (o_q.lt g h1).1; have := u_q g h1; omega)
    have bx1_0 := cell_off hg bx1_0 (fun g h1 => by have := (o_q.lt g h1).1; have := u_q g h1; omega)
    have bx2_0 := cell_off hg bx2_0 (fun g h1 => by have := (o_q.lt g h1).1; have := u_q g h1; omega)
    have bx3_0 := cell_off hg bx3_0 (fun g h1 => by have := (o_q.lt g h1).1; have := u_q g h1; omega)
    have bl0 := Nat.lt_of_lt_of_le bl0 hg.size
    have bl1 := Nat.lt_of_lt_of_le bl1 hg.size
    have bl2 := Nat.lt_of_lt_of_le bl2 hg.size
    have bl3 := Nat.lt_of_lt_of_le bl3 hg.size
    have r_a := r_a.grown hg (by omega) (fun g hg => Nat.le_trans (by omega) (o_q.lt g hg).1)
    have r_b := r_b.grown hg (by omega) (fun g hg => Nat.le_trans (by omega) (o_q.lt g hg).1)
    have r_p := r_p.grown hg (by omega) (fun g hg => Nat.le_trans (by omega) (o_q.lt g hg).1)
    have o_v := own_far o_v hg (fun g h1 h2 => by have := u_v g h1; have := (o_q.lt g h2).1; omega)
    have r_v := (Reads.of_own o_v)
    have o_g := own_far o_g hg (fun g h1 h2 => by have := (o_g.lt g h1).1; have := u_q g h2; omega)
    have r_g := (Reads.of_own o_g)
    have o_q := om
    have r_q := Reads.of_own o_q
    clear hg om
    go_wp2_with fail
    refine (eqMemory_c _ _ _ _ _ lw _ hn_v (by omega) (r_g.more (by omega)) (r_v.more (by omega))).mono ?_
    rintro e w20 ⟨rfl, hb⟩
    have k20 : Below w.heap.size w w20 := ext_step k19 (by omega) hb
    have p20 := hb.size
    have bx0_0 := ccell hb _ _ _ bx0_0
    have bx1_0 := ccell hb _ _ _ bx1_0
    have bx2_0 := ccell hb _ _ _ bx2_0
    have bx3_0 := ccell hb _ _ _ bx3_0
    have bl0 := Nat.lt_of_lt_of_le bl0 hb.size
    have bl1 := Nat.lt_of_lt_of_le bl1 hb.size
    have bl2 := Nat.lt_of_lt_of_le bl2 hb.size
    have bl3 := Nat.lt_of_lt_of_le bl3 hb.size
    have r_a := r_a.below (hb.mono (by omega))
    have r_b := r_b.below (hb.mono (by omega))
    have r_p := r_p.below (hb.mono (by omega))
    have r_v := r_v.below (hb.mono (by omega))
    have o_v := own_ext o_v hb
    have r_g := r_g.below (hb.mono (by omega))
    have o_g := own_ext o_g hb
    clear hb
    go_wp2_with fail
    refine (markMemory_c _ _ _ _ _ _ _ o_g (by omega) (by omega) (by omega)).mono ?_
    rintro e w21 ⟨rfl, om, hg⟩
    have k21 : Below w.heap.size w w21 := below_app k20 (own_base o_g (by omega)) hg (by omega)
    have p21 := hg.size
    have bx0_0 := cell_off hg bx0_0 (fun g h1 => by have := (o_g.lt g h1).1; have := u_g g h1; omega)
    have bx1_0 := cell_off hg bx1_0 (fun g h1 => by have := (o_g.lt g h1).1; have := u_g g h1; omega)
    have bx2_0 := cell_off hg bx2_0 (fun g h1 => by have := (o_g.lt g h1).1; have := u_g g h1; omega)
    have bx3_0 := cell_off hg bx3_0 (fun g h1 => by have := (o_g.lt g h1).1; have := u_g g h1; omega)
    have bl0 := Nat.lt_of_lt_of_le bl0 hg.size
    have bl1 := Nat.lt_of_lt_of_le bl1 hg.size
    have bl2 := Nat.lt_of_lt_of_le bl2 hg.size
    have bl3 := Nat.lt_of_lt_of_le bl3 hg.size
    have r_a := r_a.grown hg (by omega) (fun g hg => Nat.le_trans (by omega) (o_g.lt g hg).1)
    have r_b := r_b.grown hg (by omega) (fun g hg => Nat.le_trans (by omega) (o_g.lt g hg).1)
    have r_p := r_p.grown hg (by omega) (fun g hg => Nat.le_trans (by omega) (o_g.lt g hg).1)
    have o_v := own_far o_v hg (fun g h1 h2 => by have := u_v g h1; have := (o_g.lt g h2).1; omega)
    have r_v := (Reads.of_own o_v)
    have o_g := om
    have r_g := Reads.of_own o_g
    clear hg om
    go_wp2_with fail
    refine (heldMemory_c _ _ _ _ _ (r_g.more (by omega)) (by omega) (by omega) (by omega)).mono ?_
    rintro e w22 ⟨rfl, hb⟩
    have k22 : Below w.heap.size w w22 := ext_step k21 (by omega) hb
    have p22 := hb.size
    have bx0_0 := ccell hb _ _ _ bx0_0
    have bx1_0 := ccell hb _ _ _ bx1_0
    have bx2_0 := ccell hb _ _ _ bx2_0
    have bx3_0 := ccell hb _ _ _ bx3_0
    have bl0 := Nat.lt_of_lt_of_le bl0 hb.size
    have bl1 := Nat.lt_of_lt_of_le bl1 hb.size
    have bl2 := Nat.lt_of_lt_of_le bl2 hb.size
    have bl3 := Nat.lt_of_lt_of_le bl3 hb.size
    have r_a := r_a.below (hb.mono (by omega))
    have r_b := r_b.below (hb.mono (by omega))
    have r_p := r_p.below (hb.mono (by omega))
    have r_v := r_v.below (hb.mono (by omega))
    have o_v := own_ext o_v hb
    have r_g := r_g.below (hb.mono (by omega))
    have o_g := own_ext o_g hb
    clear hb
    go_wp2_with fail
    refine wp_region_slotsS (w22.heap.size) [(127, fun _ v => v = .slice A n c), (128, RowP w22.heap.size 77 4 n (l.flatMap Mapping.cells) (fun A c => .slice A n c)), (129, fun _ v => v = .agg #[.slice A' n' c']), (130, RowP w22.heap.size 9 1 n' (l'.flatMap fun x : ByteArray => [Value.string x]) (fun A c => .agg #[.slice A n' c])), (131, fun _ v => v = .int .i64 d), (132, fun _ v => v = .slice A3 n3 c3), (133, RowP w22.heap.size 88 2 n3 (l3.flatMap Piece.cells) (fun A c => .slice A n3 c)), (134, fun _ v => v = .string s), (135, RowP w22.heap.size 9 1 n' (lw.flatMap fun x : ByteArray => [Value.string x]) (fun A c => .tuple #[.agg #[.slice A n' c], .bool bo])), (126, RowP w22.heap.size 9 1 n' (lw.flatMap fun x : ByteArray => [Value.string x]) (fun A c => .tuple #[.agg #[.slice A n' c], .bool bo])), (136, RowP w22.heap.size 9 1 n' (lw.flatMap fun x : ByteArray => [Value.string x]) (fun A c => .agg #[.slice A n' c])), (137, fun _ v => v = .bool bo), (22, BoxP w22.heap.size 32 1), (23, fun _ v => v = .bool bo)] [⟨13, 22, fun _ => True, StoR w22.heap.size 32 9 1 n' (lw.flatMap fun x : ByteArray => [Value.string x]) (fun A c => [.slice A n' c])⟩] (fun _ => True) (by kernel_rfl) (by omega) (by kernel_rfl) (by kernel_rfl) (by kernel_rfl) (by kernel_rfl) ?_ ?_ ?_ ?_ ?_ ?_ ?_
    · intro p hp
      simp only [List.mem_cons, List.not_mem_nil, or_false] at hp
      rcases hp with rfl | rfl | rfl | rfl | rfl | rfl | rfl | rfl | rfl | rfl | rfl | rfl | rfl | rfl
      all_goals (intro u u' v hb hv; first | exact hv | exact BoxP.keep hv hb | exact RowP.keep hv hb)
    · intro s hs u u' hb
      simp only [List.mem_cons, List.not_mem_nil, or_false] at hs
      rcases hs with rfl
      all_goals (refine ⟨fun h => ?_, fun _ h => ?_⟩ <;> first | exact h | exact StoP.keep h hb | exact StoR.keep h hb | exact Blk.ext h hb | exact StaR.keep h hb)
    · intro s hs
      simp only [List.mem_cons, List.not_mem_nil, or_false] at hs
      rcases hs with rfl
      all_goals first | trivial
    · exact trivial
    · intro u u' hb hj
      exact trivial
    · intro hGk hSk hJk
      refine allStep_cons (stepS_plain hGk hSk (by omega) hJk (by kernel_rfl) rfl ?_) ?_
      · intro a u hb hz hj hl hp K Q hK
        have e0 : a.tmps[0]?.getD undef = .slice A n c := gd (hl 0 (by kernel_rfl))
        go_simp
        exact hK _ _ (Below.refl _ _) (by intro d hd; cases hd; exact rfl)
      refine allStep_cons (stepS_plain hGk hSk (by omega) hJk (by kernel_rfl) rfl ?_) ?_
      · intro a u hb hz hj hl hp K Q hK
        have e127 : a.tmps[127]?.getD undef = .slice A n c := gd (hl 127 (by kernel_rfl))
        go_simp
        refine (toMappingS_c _ _ _ l _ hn_a hs_a ((r_a.below (hb.mono (by omega))).more (by omega))).mono ?_
        rintro e u1 ⟨g, rfl, hg, bb, hb1⟩
        exact hK _ _ hb1 (by intro d hd; cases hd; exact ⟨_, _, rfl, bb.own (base := w22.heap.size) (size := 4) (n := n) (by omega) (by rw [flatMap_len _ 4 (fun _ => rfl), hn_a]) (by unfold maxLen; omega) rfl⟩)
      refine allStep_cons (stepS_plain hGk hSk (by omega) hJk (by kernel_rfl) rfl ?_) ?_
      · intro a u hb hz hj hl hp K Q hK
        have e6 : a.tmps[6]?.getD undef = .pointer (some ⟨w.heap.size, 0, none⟩) := gd (hl 6 (by kernel_rfl))
        have bx0_0 := ccell hb _ _ _ bx0_0
        go_simp
        exact hK _ _ (Below.refl _ _) (by intro d hd; cases hd; exact rfl)
      refine allStep_cons (stepS_plain hGk hSk (by omega) hJk (by kernel_rfl) rfl ?_) ?_
      · intro a u hb hz hj hl hp K Q hK
        have e129 : a.tmps[129]?.getD undef = .agg #[.slice A' n' c'] := gd (hl 129 (by kernel_rfl))
        go_simp
        refine (toMemory_c _ _ _ l' _ hn_b hs_b ((r_b.below (hb.mono (by omega))).more (by omega))).mono ?_
        rintro e u1 ⟨g, rfl, hg, bb, hb1⟩
        exact hK _ _ hb1 (by intro d hd; cases hd; exact ⟨_, _, rfl, bb.own (base := w22.heap.size) (size := 1) (n := n') (by omega) (by rw [flatMap_len _ 1 (fun _ => rfl), hn_b]) (by unfold maxLen; omega) rfl⟩)
      refine allStep_cons (stepS_plain hGk hSk (by omega) hJk (by kernel_rfl) rfl ?_) ?_
      · intro a u hb hz hj hl hp K Q hK
        have e2 : a.tmps[2]?.getD undef = .int .i64 d := gd (hl 2 (by kernel_rfl))
        go_simp
        exact hK _ _ (Below.refl _ _) (by intro d hd; cases hd; exact rfl)
      refine allStep_cons (stepS_plain hGk hSk (by omega) hJk (by kernel_rfl) rfl ?_) ?_
      · intro a u hb hz hj hl hp K Q hK
        have e3 : a.tmps[3]?.getD undef = .slice A3 n3 c3 := gd (hl 3 (by kernel_rfl))
        go_simp
        exact hK _ _ (Below.refl _ _) (by intro d hd; cases hd; exact rfl)
      refine allStep_cons (stepS_plain hGk hSk (by omega) hJk (by kernel_rfl) rfl ?_) ?_
      · intro a u hb hz hj hl hp K Q hK
        have e132 : a.tmps[132]?.getD undef = .slice A3 n3 c3 := gd (hl 132 (by kernel_rfl))
        go_simp
        refine (toPieceS_c _ _ _ l3 _ hn_p hs_p ((r_p.below (hb.mono (by omega))).more (by omega))).mono ?_
        rintro e u1 ⟨g, rfl, hg, bb, hb1⟩
        exact hK _ _ hb1 (by intro d hd; cases hd; exact ⟨_, _, rfl, bb.own (base := w22.heap.size) (size := 2) (n := n3) (by omega) (by rw [flatMap_len _ 2 (fun _ => rfl), hn_p]) (by unfold maxLen; omega) rfl⟩)
      refine allStep_cons (stepS_plain hGk hSk (by omega) hJk (by kernel_rfl) rfl ?_) ?_
      · intro a u hb hz hj hl hp K Q hK
        have e4 : a.tmps[4]?.getD undef = .string s := gd (hl 4 (by kernel_rfl))
        go_simp
        exact hK _ _ (Below.refl _ _) (by intro d hd; cases hd; exact rfl)
      refine allStep_cons (stepS_plain hGk hSk (by omega) hJk (by kernel_rfl) rfl ?_) ?_
      · intro a u hb hz hj hl hp K Q hK
        obtain ⟨A1, c1, ex128, o1⟩ : RowP w22.heap.size 77 4 n (l.flatMap Mapping.cells) (fun A c => .slice A n c) u (a.tmps.getD 128 undef) := hl 128 (by kernel_rfl)
        have e128 := gd ex128
        obtain ⟨A2, c2, ex130, o2⟩ : RowP w22.heap.size 9 1 n' (l'.flatMap fun x : ByteArray => [Value.string x]) (fun A c => .agg #[.slice A n' c]) u (a.tmps.getD 130 undef) := hl 130 (by kernel_rfl)
        have e130 := gd ex130
        have e131 : a.tmps[131]?.getD undef = .int .i64 d := gd (hl 131 (by kernel_rfl))
        obtain ⟨A4, c4, ex133, o4⟩ : RowP w22.heap.size 88 2 n3 (l3.flatMap Piece.cells) (fun A c => .slice A n3 c) u (a.tmps.getD 133 undef) := hl 133 (by kernel_rfl)
        have e133 := gd ex133
        have e134 : a.tmps[134]?.getD undef = .string s := gd (hl 134 (by kernel_rfl))
        go_simp
        refine (himpl _ _ _ _ _ _ _ hs_a hs_b hs_p (Reads.of_own o1) (Reads.of_own o2) (Reads.of_own o4)).mono ?_
        rintro e u1 ⟨A_h, c_h, rfl, o_h, hb1⟩
        exact hK _ _ hb1 (by intro d hd; cases hd; exact ⟨A_h, c_h, rfl, own_base o_h (by omega)⟩)
      refine allStep_cons (stepS_plain hGk hSk (by omega) hJk (by kernel_rfl) rfl ?_) ?_
      · intro a u hb hz hj hl hp K Q hK
        obtain ⟨A1, c1, ex135, o1⟩ : RowP w22.heap.size 9 1 n' (lw.flatMap fun x : ByteArray => [Value.string x]) (fun A c => .tuple #[.agg #[.slice A n' c], .bool bo]) u (a.tmps.getD 135 undef) := hl 135 (by kernel_rfl)
        have e135 := gd ex135
        go_simp
        exact hK _ _ (Below.refl _ _) (by intro d hd; cases hd; exact ⟨A1, c1, rfl, o1⟩)
      refine allStep_cons (stepS_plain hGk hSk (by omega) hJk (by kernel_rfl) rfl ?_) ?_
      · intro a u hb hz hj hl hp K Q hK
        obtain ⟨A1, c1, ex126, o1⟩ : RowP w22.heap.size 9 1 n' (lw.flatMap fun x : ByteArray => [Value.string x]) (fun A c => .tuple #[.agg #[.slice A n' c], .bool bo]) u (a.tmps.getD 126 undef) := hl 126 (by kernel_rfl)
        have e126 := gd ex126
        go_simp
        exact hK _ _ (Below.refl _ _) (by intro d hd; cases hd; exact ⟨A1, c1, rfl, o1⟩)
      refine allStep_cons (stepS_plain hGk hSk (by omega) hJk (by kernel_rfl) rfl ?_) ?_
      · intro a u hb hz hj hl hp K Q hK
        obtain ⟨A1, c1, ex126, o1⟩ : RowP w22.heap.size 9 1 n' (lw.flatMap fun x : ByteArray => [Value.string x]) (fun A c => .tuple #[.agg #[.slice A n' c], .bool bo]) u (a.tmps.getD 126 undef) := hl 126 (by kernel_rfl)
        have e126 := gd ex126
        go_simp
        exact hK _ _ (Below.refl _ _) (by intro d hd; cases hd; exact rfl)
      refine allStep_cons (stepS_plain hGk hSk (by omega) hJk (by kernel_rfl) rfl ?_) ?_
      · intro a u hb hz hj hl hp K Q hK
        go_simp
        exact hK _ _ (by go_grown) (by intro d hd; cases hd; exact BoxP.new _ _ [.slice none 0 0] (by omega) rfl)
      refine allStep_cons (stepS_store (Chg w22.heap.size 32) (fun _ _ hc hb => hc.below' (by omega) hb) (fun _ _ hc => hc.size) (hold_rel ?_) ?_ ?_ rfl rfl ?_) ?_
      · intro p hp
        simp only [List.mem_cons, List.not_mem_nil, or_false] at hp
        rcases hp with rfl | rfl | rfl | rfl | rfl | rfl | rfl | rfl | rfl | rfl | rfl | rfl | rfl | rfl
        all_goals (intro u u' v hb hv; first | exact hv | exact BoxP.chg hv hb | exact RowP.chg hv hb (by decide))
      · intro s hs hne u u' hb
        simp only [List.mem_cons, List.not_mem_nil, or_false] at hs
        rcases hs with rfl
        all_goals first | exact absurd (by rfl) hne | (refine ⟨fun h => ?_, fun _ h => ?_⟩ <;> first | exact h | exact StoP.chg h hb (by decide) | exact StoR.chg h hb (by decide) (by decide) | exact Blk.chgL h hb (by omega) | exact StaR.chgL h hb (by omega) (by decide))
      · intro u u' hb hj
        exact trivial
      · intro a u hb hz hj hl hp K Q hK
        obtain ⟨b, exb, hB, zs, hzl, hbk⟩ : BoxP w22.heap.size 32 1 u (a.tmps.getD 22 undef) := hl 22 (by kernel_rfl)
        have e22 := gd exb
        obtain ⟨A2, c2, ex136, o2⟩ : RowP w22.heap.size 9 1 n' (lw.flatMap fun x : ByteArray => [Value.string x]) (fun A c => .agg #[.slice A n' c]) u (a.tmps.getD 136 undef) := hl 136 (by kernel_rfl)
        have e136 := gd ex136
        obtain ⟨z0, rfl⟩ : ∃ z0, zs = [z0] := (by match zs, hzl with | [z0], _ => exact ⟨_, rfl⟩)
        have hlt := hbk.lt
        have g0 : u.cell? ⟨b, 0, none⟩ = some z0 := (hbk.cell 0).trans rfl
        have f0 := hbk.frozen 0
        go_simp
        refine hK undef _ ((Chg.refl _ _ _).set hbk hB 0 _) (fun s hs he => ?_)
        simp only [List.mem_cons, List.not_mem_nil, or_false] at hs
        rcases hs with rfl
        · exact ⟨b, A2, c2, exb, hB, (hbk.set_ 0 _), own_chg o2 ((Chg.refl _ _ _).set hbk hB 0 _) (by decide)⟩
      refine allStep_cons (stepS_plain hGk hSk (by omega) hJk (by kernel_rfl) rfl ?_) ?_
      · intro a u hb hz hj hl hp K Q hK
        have e137 : a.tmps[137]?.getD undef = .bool bo := gd (hl 137 (by kernel_rfl))
        go_simp
        exact hK _ _ (Below.refl _ _) (by intro d hd; cases hd; exact rfl)
      exact allStep_nil
    intro xT w23 hb hz hj hL hSt
    have fx23 : xT 23 = .bool bo := hL _ (List.mem_of_getElem? (i := 13) rfl)
    obtain ⟨bk_4, A_h, c_h, fx22, lo4, hk4, o_h⟩ : StoR w22.heap.size 32 9 1 n' (lw.flatMap fun x : ByteArray => [Value.string x]) (fun A c => [.slice A n' c]) w23 (xT 22) := hSt _ (List.mem_of_getElem? (i := 0) rfl)
    simp only [List.map, putAll, fx23, fx22]
    have bl4 := hk4.lt
    have bx4_0 : w23.cell? ⟨bk_4, 0, none⟩ = some (.slice A_h n' c_h) := (hk4.cell 0).trans rfl
    have k23 : Below w.heap.size w w23 := ext_step k22 (by omega) hb
    have p23 := hb.size
    have bx0_0 := ccell hb _ _ _ bx0_0
    have bx1_0 := ccell hb _ _ _ bx1_0
    have bx2_0 := ccell hb _ _ _ bx2_0
    have bx3_0 := ccell hb _ _ _ bx3_0
    have bl0 := Nat.lt_of_lt_of_le bl0 hb.size
    have bl1 := Nat.lt_of_lt_of_le bl1 hb.size
    have bl2 := Nat.lt_of_lt_of_le bl2 hb.size
    have bl3 := Nat.lt_of_lt_of_le bl3 hb.size
    have r_a := r_a.below (hb.mono (by omega))
    have r_b := r_b.below (hb.mono (by omega))
    have r_p := r_p.below (hb.mono (by omega))
    have r_v := r_v.below (hb.mono (by omega))
    have o_v := own_ext o_v hb
    have r_g := r_g.below (hb.mono (by omega))
    have o_g := own_ext o_g hb
    have nb_h_4 := own_ty o_h hk4 (by decide)
    have r_h := Reads.of_own o_h
    have u_h := fun k hk => (o_h.lt k hk).2
    clear hL hSt hb hz fx23 fx22 hk4
    go_wp2_with fail
    refine (eqMemory_c _ _ _ _ _ lw _ hn_v (by omega) (r_h.more (by omega)) (r_v.more (by omega))).mono ?_
    rintro e w24 ⟨rfl, hb⟩
    have k24 : Below w.heap.size w w24 := ext_step k23 (by omega) hb
    have p24 := hb.size
    have bx0_0 := ccell hb _ _ _ bx0_0
    have bx1_0 := ccell hb _ _ _ bx1_0
    have bx2_0 := ccell hb _ _ _ bx2_0
    have bx3_0 := ccell hb _ _ _ bx3_0
    have bx4_0 := ccell hb _ _ _ bx4_0
    have bl0 := Nat.lt_of_lt_of_le bl0 hb.size
    have bl1 := Nat.lt_of_lt_of_le bl1 hb.size
    have bl2 := Nat.lt_of_lt_of_le bl2 hb.size
    have bl3 := Nat.lt_of_lt_of_le bl3 hb.size
    have bl4 := Nat.lt_of_lt_of_le bl4 hb.size
    have r_a := r_a.below (hb.mono (by omega))
    have r_b := r_b.below (hb.mono (by omega))
    have r_p := r_p.below (hb.mono (by omega))
    have r_v := r_v.below (hb.mono (by omega))
    have o_v := own_ext o_v hb
    have r_g := r_g.below (hb.mono (by omega))
    have o_g := own_ext o_g hb
    have r_h := r_h.below (hb.mono (by omega))
    have o_h := own_ext o_h hb
    clear hb
    go_wp2_with fail
    refine (heldMemory_c _ _ _ _ _ (r_g.more (by omega)) (by omega) (by omega) (by omega)).mono ?_
    rintro e w25 ⟨rfl, hb⟩
    have k25 : Below w.heap.size w w25 := ext_step k24 (by omega) hb
    have p25 := hb.size
    have bx0_0 := ccell hb _ _ _ bx0_0
    have bx1_0 := ccell hb _ _ _ bx1_0
    have bx2_0 := ccell hb _ _ _ bx2_0
    have bx3_0 := ccell hb _ _ _ bx3_0
    have bx4_0 := ccell hb _ _ _ bx4_0
    have bl0 := Nat.lt_of_lt_of_le bl0 hb.size
    have bl1 := Nat.lt_of_lt_of_le bl1 hb.size
    have bl2 := Nat.lt_of_lt_of_le bl2 hb.size
    have bl3 := Nat.lt_of_lt_of_le bl3 hb.size
    have bl4 := Nat.lt_of_lt_of_le bl4 hb.size
    have r_a := r_a.below (hb.mono (by omega))
    have r_b := r_b.below (hb.mono (by omega))
    have r_p := r_p.below (hb.mono (by omega))
    have r_g := r_g.below (hb.mono (by omega))
    have o_g := own_ext o_g hb
    clear hb
    go_wp2
    go_ret
    exact ⟨rfl, k25⟩
end Go.Proofs.Ytjeenjblenpinaa
