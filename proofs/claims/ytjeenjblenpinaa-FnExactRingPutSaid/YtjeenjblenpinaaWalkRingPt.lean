/- The walk of laws.FnExactRingPut. -/
import Derived.Test.YtjeenjblenpinaaConvMap
import Derived.Test.YtjeenjblenpinaaConvMem
import Derived.Test.YtjeenjblenpinaaConvRing
import Derived.Test.YtjeenjblenpinaaRingPt
import Derived.Deep.RegionHeld3
namespace Go.Proofs.Ytjeenjblenpinaa
set_option linter.unusedSimpArgs false
set_option linter.unusedVariables false
open Go.RowKit Go.ChangeShapes Go.WideShapes
set_option maxRecDepth 100000 in
set_option maxHeartbeats 8000000 in
theorem fnExactRingPut_walk (A : Option Addr) (n c : Nat) (l : List Mapping) (A' : Option Addr) (n' c' : Nat) (l' : List ByteArray) (d base size head tail : Int) (s : ByteArray) (w : World) (hs : SlMapping w A n c l) (hs' : SlStr w A' n' c' l') (q0 : I64 d) (q1 : I64 base) (q2 : I64 size) (q3 : I64 head) (q4 : I64 tail) (q5 : s.size ≤ maxLen) :
    Calls Try.prog 10 #[.slice A n c, .agg #[.slice A' n' c'], .int .i64 d, .agg #[.int .i64 base, .int .i64 size, .int .i64 head, .int .i64 tail], .string s] w fun e w' => e = .returned (.bool true) ∧ Below w.heap.size w w' := by
  obtain ⟨⟨hn_a, hnc_a, hc_a, r_a⟩, hb_a⟩ := hs
  obtain ⟨⟨hn_b, hnc_b, hc_b, r_b⟩, hb_b⟩ := hs'
  unfold maxLen at q5
  by_cases hbig : 1048576 < s.size
  · go_enter Try.func10, Try.ntmps10
    go_wp2
    go_ret
    exact ⟨rfl, by go_grown⟩
  · have hspec := fun A c A' c' w => fun (hm : n ≤ 1048576) (hm' : n' ≤ 1048576) hr hr' => specRingPut_c A A' n c n' c' l l' w hn_a hn_b hm hm' hr hr' d base size head tail s q3 q4 (by omega)
    have himpl := fun A c A' c' w => fun (hm : n ≤ 1048576) (hm' : n' ≤ 1048576) hr hr' => implRingPut_c A A' n c n' c' l l' w hn_a hn_b hm hm' hr hr' d base size head tail s q3 q4 (by omega)
    have hn_v := rputM_len (l := l) (pg := l') (d := d) (base := base) (size := size) (head := head) (tail := tail) (s := s)
    rw [hn_b] at hn_v
    generalize rputM l l' d base size head tail s = lw at *
    generalize rputB l l' d base size head tail s = bo at *
    generalize rputT l l' d base size head tail s = tlo at *
    have ht_b := totS_nonneg l'
    by_cases hz_a : (1048576 : Int) - n < 0
    · skip
      have hi_a := Lib.hid (szI_neg hz_a)
      go_enter Try.func10, Try.ntmps10
      go_wp2_with fail
      have k0 : Below w.heap.size w ((w.alloc (.cells #[.slice A' n' c'] 25)).alloc (.cells #[.int .i64 base, .int .i64 size, .int .i64 head, .int .i64 tail] 55)) := by go_grown
      have bx0_0 : ((w.alloc (.cells #[.slice A' n' c'] 25)).alloc (.cells #[.int .i64 base, .int .i64 size, .int .i64 head, .int .i64 tail] 55)).cell? ⟨w.heap.size, 0, none⟩ = some (.slice A' n' c') := by simp [go_sem]
      have bl0 : w.heap.size < ((w.alloc (.cells #[.slice A' n' c'] 25)).alloc (.cells #[.int .i64 base, .int .i64 size, .int .i64 head, .int .i64 tail] 55)).heap.size := by go_size
      have bx1_0 : ((w.alloc (.cells #[.slice A' n' c'] 25)).alloc (.cells #[.int .i64 base, .int .i64 size, .int .i64 head, .int .i64 tail] 55)).cell? ⟨w.heap.size + 1, 0, none⟩ = some (.int .i64 base) := by simp [go_sem]
      have bx1_1 : ((w.alloc (.cells #[.slice A' n' c'] 25)).alloc (.cells #[.int .i64 base, .int .i64 size, .int .i64 head, .int .i64 tail] 55)).cell? ⟨w.heap.size + 1, 1, none⟩ = some (.int .i64 size) := by simp [go_sem]
      have bx1_2 : ((w.alloc (.cells #[.slice A' n' c'] 25)).alloc (.cells #[.int .i64 base, .int .i64 size, .int .i64 head, .int .i64 tail] 55)).cell? ⟨w.heap.size + 1, 2, none⟩ = some (.int .i64 head) := by simp [go_sem]
      have bx1_3 : ((w.alloc (.cells #[.slice A' n' c'] 25)).alloc (.cells #[.int .i64 base, .int .i64 size, .int .i64 head, .int .i64 tail] 55)).cell? ⟨w.heap.size + 1, 3, none⟩ = some (.int .i64 tail) := by simp [go_sem]
      have bl1 : w.heap.size + 1 < ((w.alloc (.cells #[.slice A' n' c'] 25)).alloc (.cells #[.int .i64 base, .int .i64 size, .int .i64 head, .int .i64 tail] 55)).heap.size := by go_size
      have r_a := r_a.below k0
      have r_b := r_b.below k0
      have p0 := k0.size
      generalize hW0 : ((w.alloc (.cells #[.slice A' n' c'] 25)).alloc (.cells #[.int .i64 base, .int .i64 size, .int .i64 head, .int .i64 tail] 55)) = w0 at *
      clear hW0
      refine (szMappingS_c2 _ _ _ (1048576 : Int) _ (by omega) (by omega) (by omega)).mono ?_
      rintro e w_ ⟨rfl, rfl⟩
      rw [hi_a.out]
      go_wp2
      go_ret
      exact ⟨rfl, k0⟩
    have hi_a := Lib.hid (szI_nn hz_a)
    by_cases hz_b : ((1048576 : Int) - n) - n' - totS l' < 0
    · skip
      have hi_b := Lib.hid (szI_neg hz_b)
      go_enter Try.func10, Try.ntmps10
      go_wp2_with fail
      have k0 : Below w.heap.size w ((w.alloc (.cells #[.slice A' n' c'] 25)).alloc (.cells #[.int .i64 base, .int .i64 size, .int .i64 head, .int .i64 tail] 55)) := by go_grown
      have bx0_0 : ((w.alloc (.cells #[.slice A' n' c'] 25)).alloc (.cells #[.int .i64 base, .int .i64 size, .int .i64 head, .int .i64 tail] 55)).cell? ⟨w.heap.size, 0, none⟩ = some (.slice A' n' c') := by simp [go_sem]
      have bl0 : w.heap.size < ((w.alloc (.cells #[.slice A' n' c'] 25)).alloc (.cells #[.int .i64 base, .int .i64 size, .int .i64 head, .int .i64 tail] 55)).heap.size := by go_size
      have bx1_0 : ((w.alloc (.cells #[.slice A' n' c'] 25)).alloc (.cells #[.int .i64 base, .int .i64 size, .int .i64 head, .int .i64 tail] 55)).cell? ⟨w.heap.size + 1, 0, none⟩ = some (.int .i64 base) := by simp [go_sem]
      have bx1_1 : ((w.alloc (.cells #[.slice A' n' c'] 25)).alloc (.cells #[.int .i64 base, .int .i64 size, .int .i64 head, .int .i64 tail] 55)).cell? ⟨w.heap.size + 1, 1, none⟩ = some (.int .i64 size) := by simp [go_sem]
      have bx1_2 : ((w.alloc (.cells #[.slice A' n' c'] 25)).alloc (.cells #[.int .i64 base, .int .i64 size, .int .i64 head, .int .i64 tail] 55)).cell? ⟨w.heap.size + 1, 2, none⟩ = some (.int .i64 head) := by simp [go_sem]
      have bx1_3 : ((w.alloc (.cells #[.slice A' n' c'] 25)).alloc (.cells #[.int .i64 base, .int .i64 size, .int .i64 head, .int .i64 tail] 55)).cell? ⟨w.heap.size + 1, 3, none⟩ = some (.int .i64 tail) := by simp [go_sem]
      have bl1 : w.heap.size + 1 < ((w.alloc (.cells #[.slice A' n' c'] 25)).alloc (.cells #[.int .i64 base, .int .i64 size, .int .i64 head, .int .i64 tail] 55)).heap.size := by go_size
      have r_a := r_a.below k0
      have r_b := r_b.below k0
      have p0 := k0.size
      generalize hW0 : ((w.alloc (.cells #[.slice A' n' c'] 25)).alloc (.cells #[.int .i64 base, .int .i64 size, .int .i64 head, .int .i64 tail] 55)) = w0 at *
      clear hW0
      refine (szMappingS_c2 _ _ _ (1048576 : Int) _ (by omega) (by omega) (by omega)).mono ?_
      rintro e w_ ⟨rfl, rfl⟩
      rw [hi_a.out]
      go_wp2_with fail
      refine (szMemory_c _ _ _ l' ((1048576 : Int) - n) _ (by omega) (by omega) hn_b (by omega) (r_b.more (by omega)) hb_b).mono ?_
      rintro e w1 ⟨rfl, hb⟩
      have k1 : Below w.heap.size w w1 := ext_step k0 (by omega) hb
      have p1 := hb.size
      have bx0_0 := ccell hb _ _ _ bx0_0
      have bx1_0 := ccell hb _ _ _ bx1_0
      have bx1_1 := ccell hb _ _ _ bx1_1
      have bx1_2 := ccell hb _ _ _ bx1_2
      have bx1_3 := ccell hb _ _ _ bx1_3
      have bl0 := Nat.lt_of_lt_of_le bl0 hb.size
      have bl1 := Nat.lt_of_lt_of_le bl1 hb.size
      have r_a := r_a.below (hb.mono (by omega))
      have r_b := r_b.below (hb.mono (by omega))
      rw [hi_b.out]
      clear hb
      go_wp2
      go_ret
      exact ⟨rfl, k1⟩
    have hi_b := Lib.hid (szI_nn hz_b)
    go_enter Try.func10, Try.ntmps10
    go_wp2_with fail
    have k0 : Below w.heap.size w ((w.alloc (.cells #[.slice A' n' c'] 25)).alloc (.cells #[.int .i64 base, .int .i64 size, .int .i64 head, .int .i64 tail] 55)) := by go_grown
    have bx0_0 : ((w.alloc (.cells #[.slice A' n' c'] 25)).alloc (.cells #[.int .i64 base, .int .i64 size, .int .i64 head, .int .i64 tail] 55)).cell? ⟨w.heap.size, 0, none⟩ = some (.slice A' n' c') := by simp [go_sem]
    have bl0 : w.heap.size < ((w.alloc (.cells #[.slice A' n' c'] 25)).alloc (.cells #[.int .i64 base, .int .i64 size, .int .i64 head, .int .i64 tail] 55)).heap.size := by go_size
    have bx1_0 : ((w.alloc (.cells #[.slice A' n' c'] 25)).alloc (.cells #[.int .i64 base, .int .i64 size, .int .i64 head, .int .i64 tail] 55)).cell? ⟨w.heap.size + 1, 0, none⟩ = some (.int .i64 base) := by simp [go_sem]
    have bx1_1 : ((w.alloc (.cells #[.slice A' n' c'] 25)).alloc (.cells #[.int .i64 base, .int .i64 size, .int .i64 head, .int .i64 tail] 55)).cell? ⟨w.heap.size + 1, 1, none⟩ = some (.int .i64 size) := by simp [go_sem]
    have bx1_2 : ((w.alloc (.cells #[.slice A' n' c'] 25)).alloc (.cells #[.int .i64 base, .int .i64 size, .int .i64 head, .int .i64 tail] 55)).cell? ⟨w.heap.size + 1, 2, none⟩ = some (.int .i64 head) := by simp [go_sem]
    have bx1_3 : ((w.alloc (.cells #[.slice A' n' c'] 25)).alloc (.cells #[.int .i64 base, .int .i64 size, .int .i64 head, .int .i64 tail] 55)).cell? ⟨w.heap.size + 1, 3, none⟩ = some (.int .i64 tail) := by simp [go_sem]
    have bl1 : w.heap.size + 1 < ((w.alloc (.cells #[.slice A' n' c'] 25)).alloc (.cells #[.int .i64 base, .int .i64 size, .int .i64 head, .int .i64 tail] 55)).heap.size := by go_size
    have r_a := r_a.below k0
    have r_b := r_b.below k0
    have p0 := k0.size
    generalize hW0 : ((w.alloc (.cells #[.slice A' n' c'] 25)).alloc (.cells #[.int .i64 base, .int .i64 size, .int .i64 head, .int .i64 tail] 55)) = w0 at *
    clear hW0
    refine (szMappingS_c2 _ _ _ (1048576 : Int) _ (by omega) (by omega) (by omega)).mono ?_
    rintro e w_ ⟨rfl, rfl⟩
    rw [hi_a.out]
    go_wp2_with fail
    refine (szMemory_c _ _ _ l' ((1048576 : Int) - n) _ (by omega) (by omega) hn_b (by omega) (r_b.more (by omega)) hb_b).mono ?_
    rintro e w1 ⟨rfl, hb⟩
    have k1 : Below w.heap.size w w1 := ext_step k0 (by omega) hb
    have p1 := hb.size
    have bx0_0 := ccell hb _ _ _ bx0_0
    have bx1_0 := ccell hb _ _ _ bx1_0
    have bx1_1 := ccell hb _ _ _ bx1_1
    have bx1_2 := ccell hb _ _ _ bx1_2
    have bx1_3 := ccell hb _ _ _ bx1_3
    have bl0 := Nat.lt_of_lt_of_le bl0 hb.size
    have bl1 := Nat.lt_of_lt_of_le bl1 hb.size
    have r_a := r_a.below (hb.mono (by omega))
    have r_b := r_b.below (hb.mono (by omega))
    rw [hi_b.out]
    clear hb
    have hs_a : n ≤ 1048576 := by omega
    have hs_b : n' ≤ 1048576 := by omega
    go_wp2_with fail
    refine wp_region_slotsS (w1.heap.size) [(40, fun _ v => v = .slice A n c), (41, RowP w1.heap.size 77 4 n (l.flatMap Mapping.cells) (fun A c => .slice A n c)), (42, fun _ v => v = .agg #[.slice A' n' c']), (43, RowP w1.heap.size 9 1 n' (l'.flatMap fun x : ByteArray => [Value.string x]) (fun A c => .agg #[.slice A n' c])), (44, fun _ v => v = .int .i64 d), (45, fun _ v => v = .agg #[.int .i64 base, .int .i64 size, .int .i64 head, .int .i64 tail]), (46, fun _ v => v = .agg #[.int .i64 base, .int .i64 size, .int .i64 head, .int .i64 tail]), (47, fun _ v => v = .string s), (48, RowP w1.heap.size 9 1 n' (lw.flatMap fun x : ByteArray => [Value.string x]) (fun A c => .tuple #[.agg #[.slice A n' c], .agg #[.int .i64 base, .int .i64 size, .int .i64 head, .int .i64 tlo], .bool bo])), (39, RowP w1.heap.size 9 1 n' (lw.flatMap fun x : ByteArray => [Value.string x]) (fun A c => .tuple #[.agg #[.slice A n' c], .agg #[.int .i64 base, .int .i64 size, .int .i64 head, .int .i64 tlo], .bool bo])), (49, RowP w1.heap.size 9 1 n' (lw.flatMap fun x : ByteArray => [Value.string x]) (fun A c => .agg #[.slice A n' c])), (50, fun _ v => v = .agg #[.int .i64 base, .int .i64 size, .int .i64 head, .int .i64 tlo]), (51, fun _ v => v = .bool bo), (12, BoxP w1.heap.size 32 1), (13, BoxP w1.heap.size 56 4), (14, fun _ v => v = .bool bo)] [⟨15, 12, fun _ => True, StoR w1.heap.size 32 9 1 n' (lw.flatMap fun x : ByteArray => [Value.string x]) (fun A c => [.slice A n' c])⟩, ⟨16, 13, fun _ => True, StoP w1.heap.size 56 [.int .i64 base, .int .i64 size, .int .i64 head, .int .i64 tlo]⟩] (fun _ => True) (by kernel_rfl) (by omega) (by kernel_rfl) (by kernel_rfl) (by kernel_rfl) (by kernel_rfl) ?_ ?_ ?_ ?_ ?_ ?_ ?_
    · intro p hp
      simp only [List.mem_cons, List.not_mem_nil, or_false] at hp
      rcases hp with rfl | rfl | rfl | rfl | rfl | rfl | rfl | rfl | rfl | rfl | rfl | rfl | rfl | rfl | rfl | rfl
      all_goals (intro u u' v hb hv; first | exact hv | exact BoxP.keep hv hb | exact RowP.keep hv hb)
    · intro s hs u u' hb
      simp only [List.mem_cons, List.not_mem_nil, or_false] at hs
      rcases hs with rfl | rfl
      all_goals (refine ⟨fun h => ?_, fun _ h => ?_⟩ <;> first | exact h | exact StoP.keep h hb | exact StoR.keep h hb | exact Blk.ext h hb | exact StaR.keep h hb)
    · intro s hs
      simp only [List.mem_cons, List.not_mem_nil, or_false] at hs
      rcases hs with rfl | rfl
      all_goals first | trivial
    · exact trivial
    · intro u u' hb hj
      exact trivial
    · intro hGk hSk hJk
      refine allStep_cons (stepS_plain hGk hSk (by omega) hJk (by kernel_rfl) rfl ?_) ?_
      · intro a u hb hz hj hl hp K Q hK
        have e0 : a.tmps[0]?.getD undef = .slice A n c := gd (hl 0 (by kernel_rfl))
        go_simp
        exact hK _ _ (Below.refl _ _) (by intro d hd; cases hd; exact rfl)
      refine allStep_cons (stepS_plain hGk hSk (by omega) hJk (by kernel_rfl) rfl ?_) ?_
      · intro a u hb hz hj hl hp K Q hK
        have e40 : a.tmps[40]?.getD undef = .slice A n c := gd (hl 40 (by kernel_rfl))
        go_simp
        refine (toMappingS_c _ _ _ l _ hn_a hs_a ((r_a.below (hb.mono (by omega))).more (by omega))).mono ?_
        rintro e u1 ⟨g, rfl, hg, bb, hb1⟩
        exact hK _ _ hb1 (by intro d hd; cases hd; exact ⟨_, _, rfl, bb.own (base := w1.heap.size) (size := 4) (n := n) (by omega) (by rw [flatMap_len _ 4 (fun _ => rfl), hn_a]) (by unfold maxLen; omega) rfl⟩)
      refine allStep_cons (stepS_plain hGk hSk (by omega) hJk (by kernel_rfl) rfl ?_) ?_
      · intro a u hb hz hj hl hp K Q hK
        have e6 : a.tmps[6]?.getD undef = .pointer (some ⟨w.heap.size, 0, none⟩) := gd (hl 6 (by kernel_rfl))
        have bx0_0 := ccell hb _ _ _ bx0_0
        go_simp
        exact hK _ _ (Below.refl _ _) (by intro d hd; cases hd; exact rfl)
      refine allStep_cons (stepS_plain hGk hSk (by omega) hJk (by kernel_rfl) rfl ?_) ?_
      · intro a u hb hz hj hl hp K Q hK
        have e42 : a.tmps[42]?.getD undef = .agg #[.slice A' n' c'] := gd (hl 42 (by kernel_rfl))
        go_simp
        refine (toMemory_c _ _ _ l' _ hn_b hs_b ((r_b.below (hb.mono (by omega))).more (by omega))).mono ?_
        rintro e u1 ⟨g, rfl, hg, bb, hb1⟩
        exact hK _ _ hb1 (by intro d hd; cases hd; exact ⟨_, _, rfl, bb.own (base := w1.heap.size) (size := 1) (n := n') (by omega) (by rw [flatMap_len _ 1 (fun _ => rfl), hn_b]) (by unfold maxLen; omega) rfl⟩)
      refine allStep_cons (stepS_plain hGk hSk (by omega) hJk (by kernel_rfl) rfl ?_) ?_
      · intro a u hb hz hj hl hp K Q hK
        have e2 : a.tmps[2]?.getD undef = .int .i64 d := gd (hl 2 (by kernel_rfl))
        go_simp
        exact hK _ _ (Below.refl _ _) (by intro d hd; cases hd; exact rfl)
      refine allStep_cons (stepS_plain hGk hSk (by omega) hJk (by kernel_rfl) rfl ?_) ?_
      · intro a u hb hz hj hl hp K Q hK
        have e8 : a.tmps[8]?.getD undef = .pointer (some ⟨w.heap.size + 1, 0, none⟩) := gd (hl 8 (by kernel_rfl))
        have bx1_0 := ccell hb _ _ _ bx1_0
        have bx1_1 := ccell hb _ _ _ bx1_1
        have bx1_2 := ccell hb _ _ _ bx1_2
        have bx1_3 := ccell hb _ _ _ bx1_3
        go_simp
        exact hK _ _ (Below.refl _ _) (by intro d hd; cases hd; exact rfl)
      refine allStep_cons (stepS_plain hGk hSk (by omega) hJk (by kernel_rfl) rfl ?_) ?_
      · intro a u hb hz hj hl hp K Q hK
        have e45 : a.tmps[45]?.getD undef = .agg #[.int .i64 base, .int .i64 size, .int .i64 head, .int .i64 tail] := gd (hl 45 (by kernel_rfl))
        go_simp
        refine (toRing_c _ _ _ _ _).mono ?_
        rintro e u1 ⟨rfl, hb1⟩
        exact hK _ _ hb1 (by intro d hd; cases hd; exact rfl)
      refine allStep_cons (stepS_plain hGk hSk (by omega) hJk (by kernel_rfl) rfl ?_) ?_
      · intro a u hb hz hj hl hp K Q hK
        have e4 : a.tmps[4]?.getD undef = .string s := gd (hl 4 (by kernel_rfl))
        go_simp
        exact hK _ _ (Below.refl _ _) (by intro d hd; cases hd; exact rfl)
      refine allStep_cons (stepS_plain hGk hSk (by omega) hJk (by kernel_rfl) rfl ?_) ?_
      · intro a u hb hz hj hl hp K Q hK
        obtain ⟨A1, c1, ex41, o1⟩ : RowP w1.heap.size 77 4 n (l.flatMap Mapping.cells) (fun A c => .slice A n c) u (a.tmps.getD 41 undef) := hl 41 (by kernel_rfl)
        have e41 := gd ex41
        obtain ⟨A2, c2, ex43, o2⟩ : RowP w1.heap.size 9 1 n' (l'.flatMap fun x : ByteArray => [Value.string x]) (fun A c => .agg #[.slice A n' c]) u (a.tmps.getD 43 undef) := hl 43 (by kernel_rfl)
        have e43 := gd ex43
        have e44 : a.tmps[44]?.getD undef = .int .i64 d := gd (hl 44 (by kernel_rfl))
        have e46 : a.tmps[46]?.getD undef = .agg #[.int .i64 base, .int .i64 size, .int .i64 head, .int .i64 tail] := gd (hl 46 (by kernel_rfl))
        have e47 : a.tmps[47]?.getD undef = .string s := gd (hl 47 (by kernel_rfl))
        go_simp
        refine (hspec _ _ _ _ _ hs_a hs_b (Reads.of_own o1) (Reads.of_own o2)).mono ?_
        rintro e u1 ⟨A_v, c_v, rfl, o_v, hb1⟩
        exact hK _ _ hb1 (by intro d hd; cases hd; exact ⟨A_v, c_v, rfl, own_base o_v (by omega)⟩)
      refine allStep_cons (stepS_plain hGk hSk (by omega) hJk (by kernel_rfl) rfl ?_) ?_
      · intro a u hb hz hj hl hp K Q hK
        obtain ⟨A1, c1, ex48, o1⟩ : RowP w1.heap.size 9 1 n' (lw.flatMap fun x : ByteArray => [Value.string x]) (fun A c => .tuple #[.agg #[.slice A n' c], .agg #[.int .i64 base, .int .i64 size, .int .i64 head, .int .i64 tlo], .bool bo]) u (a.tmps.getD 48 undef) := hl 48 (by kernel_rfl)
        have e48 := gd ex48
        go_simp
        exact hK _ _ (Below.refl _ _) (by intro d hd; cases hd; exact ⟨A1, c1, rfl, o1⟩)
      refine allStep_cons (stepS_plain hGk hSk (by omega) hJk (by kernel_rfl) rfl ?_) ?_
      · intro a u hb hz hj hl hp K Q hK
        obtain ⟨A1, c1, ex39, o1⟩ : RowP w1.heap.size 9 1 n' (lw.flatMap fun x : ByteArray => [Value.string x]) (fun A c => .tuple #[.agg #[.slice A n' c], .agg #[.int .i64 base, .int .i64 size, .int .i64 head, .int .i64 tlo], .bool bo]) u (a.tmps.getD 39 undef) := hl 39 (by kernel_rfl)
        have e39 := gd ex39
        go_simp
        exact hK _ _ (Below.refl _ _) (by intro d hd; cases hd; exact ⟨A1, c1, rfl, o1⟩)
      refine allStep_cons (stepS_plain hGk hSk (by omega) hJk (by kernel_rfl) rfl ?_) ?_
      · intro a u hb hz hj hl hp K Q hK
        obtain ⟨A1, c1, ex39, o1⟩ : RowP w1.heap.size 9 1 n' (lw.flatMap fun x : ByteArray => [Value.string x]) (fun A c => .tuple #[.agg #[.slice A n' c], .agg #[.int .i64 base, .int .i64 size, .int .i64 head, .int .i64 tlo], .bool bo]) u (a.tmps.getD 39 undef) := hl 39 (by kernel_rfl)
        have e39 := gd ex39
        go_simp
        exact hK _ _ (Below.refl _ _) (by intro d hd; cases hd; exact rfl)
      refine allStep_cons (stepS_plain hGk hSk (by omega) hJk (by kernel_rfl) rfl ?_) ?_
      · intro a u hb hz hj hl hp K Q hK
        obtain ⟨A1, c1, ex39, o1⟩ : RowP w1.heap.size 9 1 n' (lw.flatMap fun x : ByteArray => [Value.string x]) (fun A c => .tuple #[.agg #[.slice A n' c], .agg #[.int .i64 base, .int .i64 size, .int .i64 head, .int .i64 tlo], .bool bo]) u (a.tmps.getD 39 undef) := hl 39 (by kernel_rfl)
        have e39 := gd ex39
        go_simp
        exact hK _ _ (Below.refl _ _) (by intro d hd; cases hd; exact rfl)
      refine allStep_cons (stepS_plain hGk hSk (by omega) hJk (by kernel_rfl) rfl ?_) ?_
      · intro a u hb hz hj hl hp K Q hK
        go_simp
        exact hK _ _ (by go_grown) (by intro d hd; cases hd; exact BoxP.new _ _ [.slice none 0 0] (by omega) rfl)
      refine allStep_cons (stepS_plain hGk hSk (by omega) hJk (by kernel_rfl) rfl ?_) ?_
      · intro a u hb hz hj hl hp K Q hK
        go_simp
        exact hK _ _ (by go_grown) (by intro d hd; cases hd; exact BoxP.new _ _ [.int .i64 0, .int .i64 0, .int .i64 0, .int .i64 0] (by omega) rfl)
      refine allStep_cons (stepS_store (Chg w1.heap.size 32) (fun _ _ hc hb => hc.below' (by omega) hb) (fun _ _ hc => hc.size) (hold_rel ?_) ?_ ?_ rfl rfl ?_) ?_
      · intro p hp
        simp only [List.mem_cons, List.not_mem_nil, or_false] at hp
        rcases hp with rfl | rfl | rfl | rfl | rfl | rfl | rfl | rfl | rfl | rfl | rfl | rfl | rfl | rfl | rfl | rfl
        all_goals (intro u u' v hb hv; first | exact hv | exact BoxP.chg hv hb | exact RowP.chg hv hb (by decide))
      · intro s hs hne u u' hb
        simp only [List.mem_cons, List.not_mem_nil, or_false] at hs
        rcases hs with rfl | rfl
        all_goals first | exact absurd (by rfl) hne | (refine ⟨fun h => ?_, fun _ h => ?_⟩ <;> first | exact h | exact StoP.chg h hb (by decide) | exact StoR.chg h hb (by decide) (by decide) | exact Blk.chgL h hb (by omega) | exact StaR.chgL h hb (by omega) (by decide))
      · intro u u' hb hj
        exact trivial
      · intro a u hb hz hj hl hp K Q hK
        obtain ⟨b, exb, hB, zs, hzl, hbk⟩ : BoxP w1.heap.size 32 1 u (a.tmps.getD 12 undef) := hl 12 (by kernel_rfl)
        have e12 := gd exb
        obtain ⟨A2, c2, ex49, o2⟩ : RowP w1.heap.size 9 1 n' (lw.flatMap fun x : ByteArray => [Value.string x]) (fun A c => .agg #[.slice A n' c]) u (a.tmps.getD 49 undef) := hl 49 (by kernel_rfl)
        have e49 := gd ex49
        obtain ⟨z0, rfl⟩ : ∃ z0, zs = [z0] := (by match zs, hzl with | [z0], _ => exact ⟨_, rfl⟩)
        have hlt := hbk.lt
        have g0 : u.cell? ⟨b, 0, none⟩ = some z0 := (hbk.cell 0).trans rfl
        have f0 := hbk.frozen 0
        go_simp
        refine hK undef _ ((Chg.refl _ _ _).set hbk hB 0 _) (fun s hs he => ?_)
        simp only [List.mem_cons, List.not_mem_nil, or_false] at hs
        rcases hs with rfl | rfl
        · exact ⟨b, A2, c2, exb, hB, (hbk.set_ 0 _), own_chg o2 ((Chg.refl _ _ _).set hbk hB 0 _) (by decide)⟩
        · exact absurd (show (16 : Nat) = 15 from he) (by decide)
      refine allStep_cons (stepS_store (Chg w1.heap.size 56) (fun _ _ hc hb => hc.below' (by omega) hb) (fun _ _ hc => hc.size) (hold_rel ?_) ?_ ?_ rfl rfl ?_) ?_
      · intro p hp
        simp only [List.mem_cons, List.not_mem_nil, or_false] at hp
        rcases hp with rfl | rfl | rfl | rfl | rfl | rfl | rfl | rfl | rfl | rfl | rfl | rfl | rfl | rfl | rfl | rfl
        all_goals (intro u u' v hb hv; first | exact hv | exact BoxP.chg hv hb | exact RowP.chg hv hb (by decide))
      · intro s hs hne u u' hb
        simp only [List.mem_cons, List.not_mem_nil, or_false] at hs
        rcases hs with rfl | rfl
        all_goals first | exact absurd (by rfl) hne | (refine ⟨fun h => ?_, fun _ h => ?_⟩ <;> first | exact h | exact StoP.chg h hb (by decide) | exact StoR.chg h hb (by decide) (by decide) | exact Blk.chgL h hb (by omega) | exact StaR.chgL h hb (by omega) (by decide))
      · intro u u' hb hj
        exact trivial
      · intro a u hb hz hj hl hp K Q hK
        obtain ⟨b, exb, hB, zs, hzl, hbk⟩ : BoxP w1.heap.size 56 4 u (a.tmps.getD 13 undef) := hl 13 (by kernel_rfl)
        have e13 := gd exb
        have e50 : a.tmps[50]?.getD undef = .agg #[.int .i64 base, .int .i64 size, .int .i64 head, .int .i64 tlo] := gd (hl 50 (by kernel_rfl))
        obtain ⟨z0, z1, z2, z3, rfl⟩ : ∃ z0 z1 z2 z3, zs = [z0, z1, z2, z3] := (by match zs, hzl with | [z0, z1, z2, z3], _ => exact ⟨_, _, _, _, rfl⟩)
        have hlt := hbk.lt
        have g0 : u.cell? ⟨b, 0, none⟩ = some z0 := (hbk.cell 0).trans rfl
        have f0 := hbk.frozen 0
        have g1 : u.cell? ⟨b, 1, none⟩ = some z1 := (hbk.cell 1).trans rfl
        have f1 := hbk.frozen 1
        have g2 : u.cell? ⟨b, 2, none⟩ = some z2 := (hbk.cell 2).trans rfl
        have f2 := hbk.frozen 2
        have g3 : u.cell? ⟨b, 3, none⟩ = some z3 := (hbk.cell 3).trans rfl
        have f3 := hbk.frozen 3
        go_simp
        refine hK undef _ (((((Chg.refl _ _ _).set hbk hB 0 _).set (hbk.set_ 0 _) hB 1 _).set ((hbk.set_ 0 _).set_ 1 _) hB 2 _).set (((hbk.set_ 0 _).set_ 1 _).set_ 2 _) hB 3 _) (fun s hs he => ?_)
        simp only [List.mem_cons, List.not_mem_nil, or_false] at hs
        rcases hs with rfl | rfl
        · exact absurd (show (15 : Nat) = 16 from he) (by decide)
        · exact ⟨b, exb, hB, ((((hbk.set_ 0 _).set_ 1 _).set_ 2 _).set_ 3 _)⟩
      refine allStep_cons (stepS_plain hGk hSk (by omega) hJk (by kernel_rfl) rfl ?_) ?_
      · intro a u hb hz hj hl hp K Q hK
        have e51 : a.tmps[51]?.getD undef = .bool bo := gd (hl 51 (by kernel_rfl))
        go_simp
        exact hK _ _ (Below.refl _ _) (by intro d hd; cases hd; exact rfl)
      exact allStep_nil
    intro x w2 hb hz hj hL hSt
    have fx14 : x 14 = .bool bo := hL _ (List.mem_of_getElem? (i := 15) rfl)
    obtain ⟨bk_2, A_v, c_v, fx12, lo2, hk2, o_v⟩ : StoR w1.heap.size 32 9 1 n' (lw.flatMap fun x : ByteArray => [Value.string x]) (fun A c => [.slice A n' c]) w2 (x 12) := hSt _ (List.mem_of_getElem? (i := 0) rfl)
    obtain ⟨bk_3, fx13, lo3, hk3⟩ : StoP w1.heap.size 56 [.int .i64 base, .int .i64 size, .int .i64 head, .int .i64 tlo] w2 (x 13) := hSt _ (List.mem_of_getElem? (i := 1) rfl)
    simp only [List.map, putAll, fx14, fx12, fx13]
    have bl2 := hk2.lt
    have bx2_0 : w2.cell? ⟨bk_2, 0, none⟩ = some (.slice A_v n' c_v) := (hk2.cell 0).trans rfl
    have bl3 := hk3.lt
    have bx3_0 : w2.cell? ⟨bk_3, 0, none⟩ = some (.int .i64 base) := (hk3.cell 0).trans rfl
    have bx3_1 : w2.cell? ⟨bk_3, 1, none⟩ = some (.int .i64 size) := (hk3.cell 1).trans rfl
    have bx3_2 : w2.cell? ⟨bk_3, 2, none⟩ = some (.int .i64 head) := (hk3.cell 2).trans rfl
    have bx3_3 : w2.cell? ⟨bk_3, 3, none⟩ = some (.int .i64 tlo) := (hk3.cell 3).trans rfl
    have k2 : Below w.heap.size w w2 := ext_step k1 (by omega) hb
    have p2 := hb.size
    have bx0_0 := ccell hb _ _ _ bx0_0
    have bx1_0 := ccell hb _ _ _ bx1_0
    have bx1_1 := ccell hb _ _ _ bx1_1
    have bx1_2 := ccell hb _ _ _ bx1_2
    have bx1_3 := ccell hb _ _ _ bx1_3
    have bl0 := Nat.lt_of_lt_of_le bl0 hb.size
    have bl1 := Nat.lt_of_lt_of_le bl1 hb.size
    have r_a := r_a.below (hb.mono (by omega))
    have r_b := r_b.below (hb.mono (by omega))
    have nb_v_2 := own_ty o_v hk2 (by decide)
    have nb_v_3 := own_ty o_v hk3 (by decide)
    have r_v := Reads.of_own o_v
    have u_v := fun k hk => (o_v.lt k hk).2
    clear hL hSt hb hz fx14 fx12 fx13 hk2 hk3
    go_wp2_with fail
    refine (toMappingS_c _ _ _ l _ hn_a hs_a (r_a.more (by omega))).mono ?_
    rintro e w3 ⟨g_x, rfl, hg_x, b_x, hb⟩
    have k3 : Below w.heap.size w w3 := ext_step k2 (by omega) hb
    have p3 := hb.size
    have bx0_0 := ccell hb _ _ _ bx0_0
    have bx1_0 := ccell hb _ _ _ bx1_0
    have bx1_1 := ccell hb _ _ _ bx1_1
    have bx1_2 := ccell hb _ _ _ bx1_2
    have bx1_3 := ccell hb _ _ _ bx1_3
    have bx2_0 := ccell hb _ _ _ bx2_0
    have bx3_0 := ccell hb _ _ _ bx3_0
    have bx3_1 := ccell hb _ _ _ bx3_1
    have bx3_2 := ccell hb _ _ _ bx3_2
    have bx3_3 := ccell hb _ _ _ bx3_3
    have bl0 := Nat.lt_of_lt_of_le bl0 hb.size
    have bl1 := Nat.lt_of_lt_of_le bl1 hb.size
    have bl2 := Nat.lt_of_lt_of_le bl2 hb.size
    have bl3 := Nat.lt_of_lt_of_le bl3 hb.size
    have r_a := r_a.below (hb.mono (by omega))
    have r_b := r_b.below (hb.mono (by omega))
    have r_v := r_v.below (hb.mono (by omega))
    have o_v := own_ext o_v hb
    have r_x := b_x.reads (size := 4) (n := n) (by rw [flatMap_len _ 4 (fun _ => rfl), hn_a])
    have o_x := b_x.own (base := w2.heap.size) (size := 4) (n := n) hg_x (by rw [flatMap_len _ 4 (fun _ => rfl), hn_a]) (by unfold maxLen; omega) rfl
    have u_x := fun k hk => (o_x.lt k hk).2
    clear hb
    go_wp2_with fail
    refine (toMemory_c _ _ _ l' _ hn_b hs_b (r_b.more (by omega))).mono ?_
    rintro e w4 ⟨g_y, rfl, hg_y, b_y, hb⟩
    have k4 : Below w.heap.size w w4 := ext_step k3 (by omega) hb
    have p4 := hb.size
    have bx0_0 := ccell hb _ _ _ bx0_0
    have bx1_0 := ccell hb _ _ _ bx1_0
    have bx1_1 := ccell hb _ _ _ bx1_1
    have bx1_2 := ccell hb _ _ _ bx1_2
    have bx1_3 := ccell hb _ _ _ bx1_3
    have bx2_0 := ccell hb _ _ _ bx2_0
    have bx3_0 := ccell hb _ _ _ bx3_0
    have bx3_1 := ccell hb _ _ _ bx3_1
    have bx3_2 := ccell hb _ _ _ bx3_2
    have bx3_3 := ccell hb _ _ _ bx3_3
    have bl0 := Nat.lt_of_lt_of_le bl0 hb.size
    have bl1 := Nat.lt_of_lt_of_le bl1 hb.size
    have bl2 := Nat.lt_of_lt_of_le bl2 hb.size
    have bl3 := Nat.lt_of_lt_of_le bl3 hb.size
    have r_a := r_a.below (hb.mono (by omega))
    have r_b := r_b.below (hb.mono (by omega))
    have r_v := r_v.below (hb.mono (by omega))
    have o_v := own_ext o_v hb
    have r_x := r_x.below (hb.mono (by omega))
    have o_x := own_ext o_x hb
    have r_y := b_y.reads (size := 1) (n := n') (by rw [flatMap_len _ 1 (fun _ => rfl), hn_b])
    have o_y := b_y.own (base := w3.heap.size) (size := 1) (n := n') hg_y (by rw [flatMap_len _ 1 (fun _ => rfl), hn_b]) (by unfold maxLen; omega) rfl
    have u_y := fun k hk => (o_y.lt k hk).2
    clear hb
    go_wp2_with fail
    have hb : Below w4.heap.size w4 (w4.alloc (.cells #[.slice (some ⟨g_y, 0, none⟩) n' n'] 32)) := by go_grown
    have bx4_0 : (w4.alloc (.cells #[.slice (some ⟨g_y, 0, none⟩) n' n'] 32)).cell? ⟨w4.heap.size, 0, none⟩ = some (.slice (some ⟨g_y, 0, none⟩) n' n') := by simp [go_sem]
    have bl4 : w4.heap.size < (w4.alloc (.cells #[.slice (some ⟨g_y, 0, none⟩) n' n'] 32)).heap.size := by go_size
    generalize hW0 : (w4.alloc (.cells #[.slice (some ⟨g_y, 0, none⟩) n' n'] 32)) = w5 at *
    clear hW0
    have k5 : Below w.heap.size w w5 := ext_step k4 (by omega) hb
    have p5 := hb.size
    have bx0_0 := ccell hb _ _ _ bx0_0
    have bx1_0 := ccell hb _ _ _ bx1_0
    have bx1_1 := ccell hb _ _ _ bx1_1
    have bx1_2 := ccell hb _ _ _ bx1_2
    have bx1_3 := ccell hb _ _ _ bx1_3
    have bx2_0 := ccell hb _ _ _ bx2_0
    have bx3_0 := ccell hb _ _ _ bx3_0
    have bx3_1 := ccell hb _ _ _ bx3_1
    have bx3_2 := ccell hb _ _ _ bx3_2
    have bx3_3 := ccell hb _ _ _ bx3_3
    have bl0 := Nat.lt_of_lt_of_le bl0 hb.size
    have bl1 := Nat.lt_of_lt_of_le bl1 hb.size
    have bl2 := Nat.lt_of_lt_of_le bl2 hb.size
    have bl3 := Nat.lt_of_lt_of_le bl3 hb.size
    have r_a := r_a.below (hb.mono (by omega))
    have r_b := r_b.below (hb.mono (by omega))
    have r_v := r_v.below (hb.mono (by omega))
    have o_v := own_ext o_v hb
    have r_x := r_x.below (hb.mono (by omega))
    have o_x := own_ext o_x hb
    have r_y := r_y.below (hb.mono (by omega))
    have o_y := own_ext o_y hb
    clear hb
    refine wp_region_slotsS (w5.heap.size) [(57, fun _ v => v = .slice (some ⟨g_x, 0, none⟩) n n), (58, fun _ v => v = .agg #[.slice (some ⟨g_y, 0, none⟩) n' n']), (59, fun _ v => v = .int .i64 d), (60, fun _ v => v = .agg #[.int .i64 base, .int .i64 size, .int .i64 head, .int .i64 tail]), (61, fun _ v => v = .agg #[.int .i64 base, .int .i64 size, .int .i64 head, .int .i64 tail]), (62, fun _ v => v = .string s), (63, RowP w5.heap.size 9 1 n' (lw.flatMap fun x : ByteArray => [Value.string x]) (fun A c => .tuple #[.agg #[.slice A n' c], .agg #[.int .i64 base, .int .i64 size, .int .i64 head, .int .i64 tlo], .bool bo])), (56, RowP w5.heap.size 9 1 n' (lw.flatMap fun x : ByteArray => [Value.string x]) (fun A c => .tuple #[.agg #[.slice A n' c], .agg #[.int .i64 base, .int .i64 size, .int .i64 head, .int .i64 tlo], .bool bo])), (64, RowP w5.heap.size 9 1 n' (lw.flatMap fun x : ByteArray => [Value.string x]) (fun A c => .agg #[.slice A n' c])), (65, fun _ v => v = .agg #[.int .i64 base, .int .i64 size, .int .i64 head, .int .i64 tlo]), (66, fun _ v => v = .bool bo), (17, BoxP w5.heap.size 32 1), (18, BoxP w5.heap.size 56 4), (19, fun _ v => v = .bool bo)] [⟨13, 17, fun _ => True, StoR w5.heap.size 32 9 1 n' (lw.flatMap fun x : ByteArray => [Value.string x]) (fun A c => [.slice A n' c])⟩, ⟨14, 18, fun _ => True, StoP w5.heap.size 56 [.int .i64 base, .int .i64 size, .int .i64 head, .int .i64 tlo]⟩] (fun _ => True) (by kernel_rfl) (by omega) (by kernel_rfl) (by kernel_rfl) (by kernel_rfl) (by kernel_rfl) ?_ ?_ ?_ ?_ ?_ ?_ ?_
    · intro p hp
      simp only [List.mem_cons, List.not_mem_nil, or_false] at hp
      rcases hp with rfl | rfl | rfl | rfl | rfl | rfl | rfl | rfl | rfl | rfl | rfl | rfl | rfl | rfl
      all_goals (intro u u' v hb hv; first | exact hv | exact BoxP.keep hv hb | exact RowP.keep hv hb)
    · intro s hs u u' hb
      simp only [List.mem_cons, List.not_mem_nil, or_false] at hs
      rcases hs with rfl | rfl
      all_goals (refine ⟨fun h => ?_, fun _ h => ?_⟩ <;> first | exact h | exact StoP.keep h hb | exact StoR.keep h hb | exact Blk.ext h hb | exact StaR.keep h hb)
    · intro s hs
      simp only [List.mem_cons, List.not_mem_nil, or_false] at hs
      rcases hs with rfl | rfl
      all_goals first | trivial
    · exact trivial
    · intro u u' hb hj
      exact trivial
    · intro hGk hSk hJk
      refine allStep_cons (stepS_plain hGk hSk (by omega) hJk (by kernel_rfl) rfl ?_) ?_
      · intro a u hb hz hj hl hp K Q hK
        have e15 : a.tmps[15]?.getD undef = .slice (some ⟨g_x, 0, none⟩) n n := gd (hl 15 (by kernel_rfl))
        go_simp
        exact hK _ _ (Below.refl _ _) (by intro d hd; cases hd; exact rfl)
      refine allStep_cons (stepS_plain hGk hSk (by omega) hJk (by kernel_rfl) rfl ?_) ?_
      · intro a u hb hz hj hl hp K Q hK
        have e16 : a.tmps[16]?.getD undef = .pointer (some ⟨w4.heap.size, 0, none⟩) := gd (hl 16 (by kernel_rfl))
        have bx4_0 := ccell hb _ _ _ bx4_0
        go_simp
        exact hK _ _ (Below.refl _ _) (by intro d hd; cases hd; exact rfl)
      refine allStep_cons (stepS_plain hGk hSk (by omega) hJk (by kernel_rfl) rfl ?_) ?_
      · intro a u hb hz hj hl hp K Q hK
        have e2 : a.tmps[2]?.getD undef = .int .i64 d := gd (hl 2 (by kernel_rfl))
        go_simp
        exact hK _ _ (Below.refl _ _) (by intro d hd; cases hd; exact rfl)
      refine allStep_cons (stepS_plain hGk hSk (by omega) hJk (by kernel_rfl) rfl ?_) ?_
      · intro a u hb hz hj hl hp K Q hK
        have e8 : a.tmps[8]?.getD undef = .pointer (some ⟨w.heap.size + 1, 0, none⟩) := gd (hl 8 (by kernel_rfl))
        have bx1_0 := ccell hb _ _ _ bx1_0
        have bx1_1 := ccell hb _ _ _ bx1_1
        have bx1_2 := ccell hb _ _ _ bx1_2
        have bx1_3 := ccell hb _ _ _ bx1_3
        go_simp
        exact hK _ _ (Below.refl _ _) (by intro d hd; cases hd; exact rfl)
      refine allStep_cons (stepS_plain hGk hSk (by omega) hJk (by kernel_rfl) rfl ?_) ?_
      · intro a u hb hz hj hl hp K Q hK
        have e60 : a.tmps[60]?.getD undef = .agg #[.int .i64 base, .int .i64 size, .int .i64 head, .int .i64 tail] := gd (hl 60 (by kernel_rfl))
        go_simp
        refine (toRing_c _ _ _ _ _).mono ?_
        rintro e u1 ⟨rfl, hb1⟩
        exact hK _ _ hb1 (by intro d hd; cases hd; exact rfl)
      refine allStep_cons (stepS_plain hGk hSk (by omega) hJk (by kernel_rfl) rfl ?_) ?_
      · intro a u hb hz hj hl hp K Q hK
        have e4 : a.tmps[4]?.getD undef = .string s := gd (hl 4 (by kernel_rfl))
        go_simp
        exact hK _ _ (Below.refl _ _) (by intro d hd; cases hd; exact rfl)
      refine allStep_cons (stepS_plain hGk hSk (by omega) hJk (by kernel_rfl) rfl ?_) ?_
      · intro a u hb hz hj hl hp K Q hK
        have e57 : a.tmps[57]?.getD undef = .slice (some ⟨g_x, 0, none⟩) n n := gd (hl 57 (by kernel_rfl))
        have e58 : a.tmps[58]?.getD undef = .agg #[.slice (some ⟨g_y, 0, none⟩) n' n'] := gd (hl 58 (by kernel_rfl))
        have e59 : a.tmps[59]?.getD undef = .int .i64 d := gd (hl 59 (by kernel_rfl))
        have e61 : a.tmps[61]?.getD undef = .agg #[.int .i64 base, .int .i64 size, .int .i64 head, .int .i64 tail] := gd (hl 61 (by kernel_rfl))
        have e62 : a.tmps[62]?.getD undef = .string s := gd (hl 62 (by kernel_rfl))
        go_simp
        refine (himpl _ _ _ _ _ hs_a hs_b ((r_x.below (hb.mono (by omega))).more (by omega)) ((r_y.below (hb.mono (by omega))).more (by omega))).mono ?_
        rintro e u1 ⟨A_g, c_g, rfl, o_g, hb1⟩
        exact hK _ _ hb1 (by intro d hd; cases hd; exact ⟨A_g, c_g, rfl, own_base o_g (by omega)⟩)
      refine allStep_cons (stepS_plain hGk hSk (by omega) hJk (by kernel_rfl) rfl ?_) ?_
      · intro a u hb hz hj hl hp K Q hK
        obtain ⟨A1, c1, ex63, o1⟩ : RowP w5.heap.size 9 1 n' (lw.flatMap fun x : ByteArray => [Value.string x]) (fun A c => .tuple #[.agg #[.slice A n' c], .agg #[.int .i64 base, .int .i64 size, .int .i64 head, .int .i64 tlo], .bool bo]) u (a.tmps.getD 63 undef) := hl 63 (by kernel_rfl)
        have e63 := gd ex63
        go_simp
        exact hK _ _ (Below.refl _ _) (by intro d hd; cases hd; exact ⟨A1, c1, rfl, o1⟩)
      refine allStep_cons (stepS_plain hGk hSk (by omega) hJk (by kernel_rfl) rfl ?_) ?_
      · intro a u hb hz hj hl hp K Q hK
        obtain ⟨A1, c1, ex56, o1⟩ : RowP w5.heap.size 9 1 n' (lw.flatMap fun x : ByteArray => [Value.string x]) (fun A c => .tuple #[.agg #[.slice A n' c], .agg #[.int .i64 base, .int .i64 size, .int .i64 head, .int .i64 tlo], .bool bo]) u (a.tmps.getD 56 undef) := hl 56 (by kernel_rfl)
        have e56 := gd ex56
        go_simp
        exact hK _ _ (Below.refl _ _) (by intro d hd; cases hd; exact ⟨A1, c1, rfl, o1⟩)
      refine allStep_cons (stepS_plain hGk hSk (by omega) hJk (by kernel_rfl) rfl ?_) ?_
      · intro a u hb hz hj hl hp K Q hK
        obtain ⟨A1, c1, ex56, o1⟩ : RowP w5.heap.size 9 1 n' (lw.flatMap fun x : ByteArray => [Value.string x]) (fun A c => .tuple #[.agg #[.slice A n' c], .agg #[.int .i64 base, .int .i64 size, .int .i64 head, .int .i64 tlo], .bool bo]) u (a.tmps.getD 56 undef) := hl 56 (by kernel_rfl)
        have e56 := gd ex56
        go_simp
        exact hK _ _ (Below.refl _ _) (by intro d hd; cases hd; exact rfl)
      refine allStep_cons (stepS_plain hGk hSk (by omega) hJk (by kernel_rfl) rfl ?_) ?_
      · intro a u hb hz hj hl hp K Q hK
        obtain ⟨A1, c1, ex56, o1⟩ : RowP w5.heap.size 9 1 n' (lw.flatMap fun x : ByteArray => [Value.string x]) (fun A c => .tuple #[.agg #[.slice A n' c], .agg #[.int .i64 base, .int .i64 size, .int .i64 head, .int .i64 tlo], .bool bo]) u (a.tmps.getD 56 undef) := hl 56 (by kernel_rfl)
        have e56 := gd ex56
        go_simp
        exact hK _ _ (Below.refl _ _) (by intro d hd; cases hd; exact rfl)
      refine allStep_cons (stepS_plain hGk hSk (by omega) hJk (by kernel_rfl) rfl ?_) ?_
      · intro a u hb hz hj hl hp K Q hK
        go_simp
        exact hK _ _ (by go_grown) (by intro d hd; cases hd; exact BoxP.new _ _ [.slice none 0 0] (by omega) rfl)
      refine allStep_cons (stepS_plain hGk hSk (by omega) hJk (by kernel_rfl) rfl ?_) ?_
      · intro a u hb hz hj hl hp K Q hK
        go_simp
        exact hK _ _ (by go_grown) (by intro d hd; cases hd; exact BoxP.new _ _ [.int .i64 0, .int .i64 0, .int .i64 0, .int .i64 0] (by omega) rfl)
      refine allStep_cons (stepS_store (Chg w5.heap.size 32) (fun _ _ hc hb => hc.below' (by omega) hb) (fun _ _ hc => hc.size) (hold_rel ?_) ?_ ?_ rfl rfl ?_) ?_
      · intro p hp
        simp only [List.mem_cons, List.not_mem_nil, or_false] at hp
        rcases hp with rfl | rfl | rfl | rfl | rfl | rfl | rfl | rfl | rfl | rfl | rfl | rfl | rfl | rfl
        all_goals (intro u u' v hb hv; first | exact hv | exact BoxP.chg hv hb | exact RowP.chg hv hb (by decide))
      · intro s hs hne u u' hb
        simp only [List.mem_cons, List.not_mem_nil, or_false] at hs
        rcases hs with rfl | rfl
        all_goals first | exact absurd (by rfl) hne | (refine ⟨fun h => ?_, fun _ h => ?_⟩ <;> first | exact h | exact StoP.chg h hb (by decide) | exact StoR.chg h hb (by decide) (by decide) | exact Blk.chgL h hb (by omega) | exact StaR.chgL h hb (by omega) (by decide))
      · intro u u' hb hj
        exact trivial
      · intro a u hb hz hj hl hp K Q hK
        obtain ⟨b, exb, hB, zs, hzl, hbk⟩ : BoxP w5.heap.size 32 1 u (a.tmps.getD 17 undef) := hl 17 (by kernel_rfl)
        have e17 := gd exb
        obtain ⟨A2, c2, ex64, o2⟩ : RowP w5.heap.size 9 1 n' (lw.flatMap fun x : ByteArray => [Value.string x]) (fun A c => .agg #[.slice A n' c]) u (a.tmps.getD 64 undef) := hl 64 (by kernel_rfl)
        have e64 := gd ex64
        obtain ⟨z0, rfl⟩ : ∃ z0, zs = [z0] := (by match zs, hzl with | [z0], _ => exact ⟨_, rfl⟩)
        have hlt := hbk.lt
        have g0 : u.cell? ⟨b, 0, none⟩ = some z0 := (hbk.cell 0).trans rfl
        have f0 := hbk.frozen 0
        go_simp
        refine hK undef _ ((Chg.refl _ _ _).set hbk hB 0 _) (fun s hs he => ?_)
        simp only [List.mem_cons, List.not_mem_nil, or_false] at hs
        rcases hs with rfl | rfl
        · exact ⟨b, A2, c2, exb, hB, (hbk.set_ 0 _), own_chg o2 ((Chg.refl _ _ _).set hbk hB 0 _) (by decide)⟩
        · exact absurd (show (14 : Nat) = 13 from he) (by decide)
      refine allStep_cons (stepS_store (Chg w5.heap.size 56) (fun _ _ hc hb => hc.below' (by omega) hb) (fun _ _ hc => hc.size) (hold_rel ?_) ?_ ?_ rfl rfl ?_) ?_
      · intro p hp
        simp only [List.mem_cons, List.not_mem_nil, or_false] at hp
        rcases hp with rfl | rfl | rfl | rfl | rfl | rfl | rfl | rfl | rfl | rfl | rfl | rfl | rfl | rfl
        all_goals (intro u u' v hb hv; first | exact hv | exact BoxP.chg hv hb | exact RowP.chg hv hb (by decide))
      · intro s hs hne u u' hb
        simp only [List.mem_cons, List.not_mem_nil, or_false] at hs
        rcases hs with rfl | rfl
        all_goals first | exact absurd (by rfl) hne | (refine ⟨fun h => ?_, fun _ h => ?_⟩ <;> first | exact h | exact StoP.chg h hb (by decide) | exact StoR.chg h hb (by decide) (by decide) | exact Blk.chgL h hb (by omega) | exact StaR.chgL h hb (by omega) (by decide))
      · intro u u' hb hj
        exact trivial
      · intro a u hb hz hj hl hp K Q hK
        obtain ⟨b, exb, hB, zs, hzl, hbk⟩ : BoxP w5.heap.size 56 4 u (a.tmps.getD 18 undef) := hl 18 (by kernel_rfl)
        have e18 := gd exb
        have e65 : a.tmps[65]?.getD undef = .agg #[.int .i64 base, .int .i64 size, .int .i64 head, .int .i64 tlo] := gd (hl 65 (by kernel_rfl))
        obtain ⟨z0, z1, z2, z3, rfl⟩ : ∃ z0 z1 z2 z3, zs = [z0, z1, z2, z3] := (by match zs, hzl with | [z0, z1, z2, z3], _ => exact ⟨_, _, _, _, rfl⟩)
        have hlt := hbk.lt
        have g0 : u.cell? ⟨b, 0, none⟩ = some z0 := (hbk.cell 0).trans rfl
        have f0 := hbk.frozen 0
        have g1 : u.cell? ⟨b, 1, none⟩ = some z1 := (hbk.cell 1).trans rfl
        have f1 := hbk.frozen 1
        have g2 : u.cell? ⟨b, 2, none⟩ = some z2 := (hbk.cell 2).trans rfl
        have f2 := hbk.frozen 2
        have g3 : u.cell? ⟨b, 3, none⟩ = some z3 := (hbk.cell 3).trans rfl
        have f3 := hbk.frozen 3
        go_simp
        refine hK undef _ (((((Chg.refl _ _ _).set hbk hB 0 _).set (hbk.set_ 0 _) hB 1 _).set ((hbk.set_ 0 _).set_ 1 _) hB 2 _).set (((hbk.set_ 0 _).set_ 1 _).set_ 2 _) hB 3 _) (fun s hs he => ?_)
        simp only [List.mem_cons, List.not_mem_nil, or_false] at hs
        rcases hs with rfl | rfl
        · exact absurd (show (13 : Nat) = 14 from he) (by decide)
        · exact ⟨b, exb, hB, ((((hbk.set_ 0 _).set_ 1 _).set_ 2 _).set_ 3 _)⟩
      refine allStep_cons (stepS_plain hGk hSk (by omega) hJk (by kernel_rfl) rfl ?_) ?_
      · intro a u hb hz hj hl hp K Q hK
        have e66 : a.tmps[66]?.getD undef = .bool bo := gd (hl 66 (by kernel_rfl))
        go_simp
        exact hK _ _ (Below.refl _ _) (by intro d hd; cases hd; exact rfl)
      exact allStep_nil
    intro x w6 hb hz hj hL hSt
    have fx19 : x 19 = .bool bo := hL _ (List.mem_of_getElem? (i := 13) rfl)
    obtain ⟨bk_5, A_g, c_g, fx17, lo5, hk5, o_g⟩ : StoR w5.heap.size 32 9 1 n' (lw.flatMap fun x : ByteArray => [Value.string x]) (fun A c => [.slice A n' c]) w6 (x 17) := hSt _ (List.mem_of_getElem? (i := 0) rfl)
    obtain ⟨bk_6, fx18, lo6, hk6⟩ : StoP w5.heap.size 56 [.int .i64 base, .int .i64 size, .int .i64 head, .int .i64 tlo] w6 (x 18) := hSt _ (List.mem_of_getElem? (i := 1) rfl)
    simp only [List.map, putAll, fx19, fx17, fx18]
    have bl5 := hk5.lt
    have bx5_0 : w6.cell? ⟨bk_5, 0, none⟩ = some (.slice A_g n' c_g) := (hk5.cell 0).trans rfl
    have bl6 := hk6.lt
    have bx6_0 : w6.cell? ⟨bk_6, 0, none⟩ = some (.int .i64 base) := (hk6.cell 0).trans rfl
    have bx6_1 : w6.cell? ⟨bk_6, 1, none⟩ = some (.int .i64 size) := (hk6.cell 1).trans rfl
    have bx6_2 : w6.cell? ⟨bk_6, 2, none⟩ = some (.int .i64 head) := (hk6.cell 2).trans rfl
    have bx6_3 : w6.cell? ⟨bk_6, 3, none⟩ = some (.int .i64 tlo) := (hk6.cell 3).trans rfl
    have k6 : Below w.heap.size w w6 := ext_step k5 (by omega) hb
    have p6 := hb.size
    have bx0_0 := ccell hb _ _ _ bx0_0
    have bx1_0 := ccell hb _ _ _ bx1_0
    have bx1_1 := ccell hb _ _ _ bx1_1
    have bx1_2 := ccell hb _ _ _ bx1_2
    have bx1_3 := ccell hb _ _ _ bx1_3
    have bx2_0 := ccell hb _ _ _ bx2_0
    have bx3_0 := ccell hb _ _ _ bx3_0
    have bx3_1 := ccell hb _ _ _ bx3_1
    have bx3_2 := ccell hb _ _ _ bx3_2
    have bx3_3 := ccell hb _ _ _ bx3_3
    have bx4_0 := ccell hb _ _ _ bx4_0
    have bl0 := Nat.lt_of_lt_of_le bl0 hb.size
    have bl1 := Nat.lt_of_lt_of_le bl1 hb.size
    have bl2 := Nat.lt_of_lt_of_le bl2 hb.size
    have bl3 := Nat.lt_of_lt_of_le bl3 hb.size
    have bl4 := Nat.lt_of_lt_of_le bl4 hb.size
    have r_a := r_a.below (hb.mono (by omega))
    have r_b := r_b.below (hb.mono (by omega))
    have r_v := r_v.below (hb.mono (by omega))
    have o_v := own_ext o_v hb
    have r_x := r_x.below (hb.mono (by omega))
    have o_x := own_ext o_x hb
    have r_y := r_y.below (hb.mono (by omega))
    have o_y := own_ext o_y hb
    have nb_g_5 := own_ty o_g hk5 (by decide)
    have nb_g_6 := own_ty o_g hk6 (by decide)
    have r_g := Reads.of_own o_g
    have u_g := fun k hk => (o_g.lt k hk).2
    clear hL hSt hb hz fx19 fx17 fx18 hk5 hk6
    go_wp2_with fail
    refine (eqMemory_c _ _ _ _ _ lw _ hn_v (by omega) (r_g.more (by omega)) (r_v.more (by omega))).mono ?_
    rintro e w7 ⟨rfl, hb⟩
    have k7 : Below w.heap.size w w7 := ext_step k6 (by omega) hb
    have p7 := hb.size
    have bx0_0 := ccell hb _ _ _ bx0_0
    have bx1_0 := ccell hb _ _ _ bx1_0
    have bx1_1 := ccell hb _ _ _ bx1_1
    have bx1_2 := ccell hb _ _ _ bx1_2
    have bx1_3 := ccell hb _ _ _ bx1_3
    have bx2_0 := ccell hb _ _ _ bx2_0
    have bx3_0 := ccell hb _ _ _ bx3_0
    have bx3_1 := ccell hb _ _ _ bx3_1
    have bx3_2 := ccell hb _ _ _ bx3_2
    have bx3_3 := ccell hb _ _ _ bx3_3
    have bx4_0 := ccell hb _ _ _ bx4_0
    have bx5_0 := ccell hb _ _ _ bx5_0
    have bx6_0 := ccell hb _ _ _ bx6_0
    have bx6_1 := ccell hb _ _ _ bx6_1
    have bx6_2 := ccell hb _ _ _ bx6_2
    have bx6_3 := ccell hb _ _ _ bx6_3
    have bl0 := Nat.lt_of_lt_of_le bl0 hb.size
    have bl1 := Nat.lt_of_lt_of_le bl1 hb.size
    have bl2 := Nat.lt_of_lt_of_le bl2 hb.size
    have bl3 := Nat.lt_of_lt_of_le bl3 hb.size
    have bl4 := Nat.lt_of_lt_of_le bl4 hb.size
    have bl5 := Nat.lt_of_lt_of_le bl5 hb.size
    have bl6 := Nat.lt_of_lt_of_le bl6 hb.size
    have r_a := r_a.below (hb.mono (by omega))
    have r_b := r_b.below (hb.mono (by omega))
    have r_v := r_v.below (hb.mono (by omega))
    have o_v := own_ext o_v hb
    have r_x := r_x.below (hb.mono (by omega))
    have o_x := own_ext o_x hb
    have r_y := r_y.below (hb.mono (by omega))
    have o_y := own_ext o_y hb
    have r_g := r_g.below (hb.mono (by omega))
    have o_g := own_ext o_g hb
    clear hb
    go_wp2_with fail
    refine (eqRing_c _ _ _ _ _).mono ?_
    rintro e w8 ⟨rfl, hb⟩
    have k8 : Below w.heap.size w w8 := ext_step k7 (by omega) hb
    have p8 := hb.size
    have bx0_0 := ccell hb _ _ _ bx0_0
    have bx1_0 := ccell hb _ _ _ bx1_0
    have bx1_1 := ccell hb _ _ _ bx1_1
    have bx1_2 := ccell hb _ _ _ bx1_2
    have bx1_3 := ccell hb _ _ _ bx1_3
    have bx2_0 := ccell hb _ _ _ bx2_0
    have bx3_0 := ccell hb _ _ _ bx3_0
    have bx3_1 := ccell hb _ _ _ bx3_1
    have bx3_2 := ccell hb _ _ _ bx3_2
    have bx3_3 := ccell hb _ _ _ bx3_3
    have bx4_0 := ccell hb _ _ _ bx4_0
    have bx5_0 := ccell hb _ _ _ bx5_0
    have bx6_0 := ccell hb _ _ _ bx6_0
    have bx6_1 := ccell hb _ _ _ bx6_1
    have bx6_2 := ccell hb _ _ _ bx6_2
    have bx6_3 := ccell hb _ _ _ bx6_3
    have bl0 := Nat.lt_of_lt_of_le bl0 hb.size
    have bl1 := Nat.lt_of_lt_of_le bl1 hb.size
    have bl2 := Nat.lt_of_lt_of_le bl2 hb.size
    have bl3 := Nat.lt_of_lt_of_le bl3 hb.size
    have bl4 := Nat.lt_of_lt_of_le bl4 hb.size
    have bl5 := Nat.lt_of_lt_of_le bl5 hb.size
    have bl6 := Nat.lt_of_lt_of_le bl6 hb.size
    have r_a := r_a.below (hb.mono (by omega))
    have r_b := r_b.below (hb.mono (by omega))
    have r_v := r_v.below (hb.mono (by omega))
    have o_v := own_ext o_v hb
    have r_x := r_x.below (hb.mono (by omega))
    have o_x := own_ext o_x hb
    have r_y := r_y.below (hb.mono (by omega))
    have o_y := own_ext o_y hb
    have r_g := r_g.below (hb.mono (by omega))
    have o_g := own_ext o_g hb
    clear hb
    go_wp2_with fail
    refine (toMappingS_c _ _ _ l _ hn_a hs_a (r_a.more (by omega))).mono ?_
    rintro e w9 ⟨g_z, rfl, hg_z, b_z, hb⟩
    have k9 : Below w.heap.size w w9 := ext_step k8 (by omega) hb
    have p9 := hb.size
    have bx0_0 := ccell hb _ _ _ bx0_0
    have bx1_0 := ccell hb _ _ _ bx1_0
    have bx1_1 := ccell hb _ _ _ bx1_1
    have bx1_2 := ccell hb _ _ _ bx1_2
    have bx1_3 := ccell hb _ _ _ bx1_3
    have bx2_0 := ccell hb _ _ _ bx2_0
    have bx3_0 := ccell hb _ _ _ bx3_0
    have bx3_1 := ccell hb _ _ _ bx3_1
    have bx3_2 := ccell hb _ _ _ bx3_2
    have bx3_3 := ccell hb _ _ _ bx3_3
    have bx4_0 := ccell hb _ _ _ bx4_0
    have bx5_0 := ccell hb _ _ _ bx5_0
    have bx6_0 := ccell hb _ _ _ bx6_0
    have bx6_1 := ccell hb _ _ _ bx6_1
    have bx6_2 := ccell hb _ _ _ bx6_2
    have bx6_3 := ccell hb _ _ _ bx6_3
    have bl0 := Nat.lt_of_lt_of_le bl0 hb.size
    have bl1 := Nat.lt_of_lt_of_le bl1 hb.size
    have bl2 := Nat.lt_of_lt_of_le bl2 hb.size
    have bl3 := Nat.lt_of_lt_of_le bl3 hb.size
    have bl4 := Nat.lt_of_lt_of_le bl4 hb.size
    have bl5 := Nat.lt_of_lt_of_le bl5 hb.size
    have bl6 := Nat.lt_of_lt_of_le bl6 hb.size
    have r_a := r_a.below (hb.mono (by omega))
    have r_b := r_b.below (hb.mono (by omega))
    have r_v := r_v.below (hb.mono (by omega))
    have o_v := own_ext o_v hb
    have r_x := r_x.below (hb.mono (by omega))
    have o_x := own_ext o_x hb
    have r_y := r_y.below (hb.mono (by omega))
    have o_y := own_ext o_y hb
    have r_g := r_g.below (hb.mono (by omega))
    have o_g := own_ext o_g hb
    have r_z := b_z.reads (size := 4) (n := n) (by rw [flatMap_len _ 4 (fun _ => rfl), hn_a])
    have o_z := b_z.own (base := w8.heap.size) (size := 4) (n := n) hg_z (by rw [flatMap_len _ 4 (fun _ => rfl), hn_a]) (by unfold maxLen; omega) rfl
    have u_z := fun k hk => (o_z.lt k hk).2
    clear hb
    go_wp2_with fail
    refine (eqMappingS_c _ _ _ _ _ l _ hn_a (by omega) (r_x.more (by omega)) (r_z.more (by omega))).mono ?_
    rintro e w10 ⟨rfl, hb⟩
    have k10 : Below w.heap.size w w10 := ext_step k9 (by omega) hb
    have p10 := hb.size
    have bx0_0 := ccell hb _ _ _ bx0_0
    have bx1_0 := ccell hb _ _ _ bx1_0
    have bx1_1 := ccell hb _ _ _ bx1_1
    have bx1_2 := ccell hb _ _ _ bx1_2
    have bx1_3 := ccell hb _ _ _ bx1_3
    have bx2_0 := ccell hb _ _ _ bx2_0
    have bx3_0 := ccell hb _ _ _ bx3_0
    have bx3_1 := ccell hb _ _ _ bx3_1
    have bx3_2 := ccell hb _ _ _ bx3_2
    have bx3_3 := ccell hb _ _ _ bx3_3
    have bx4_0 := ccell hb _ _ _ bx4_0
    have bx5_0 := ccell hb _ _ _ bx5_0
    have bx6_0 := ccell hb _ _ _ bx6_0
    have bx6_1 := ccell hb _ _ _ bx6_1
    have bx6_2 := ccell hb _ _ _ bx6_2
    have bx6_3 := ccell hb _ _ _ bx6_3
    have bl0 := Nat.lt_of_lt_of_le bl0 hb.size
    have bl1 := Nat.lt_of_lt_of_le bl1 hb.size
    have bl2 := Nat.lt_of_lt_of_le bl2 hb.size
    have bl3 := Nat.lt_of_lt_of_le bl3 hb.size
    have bl4 := Nat.lt_of_lt_of_le bl4 hb.size
    have bl5 := Nat.lt_of_lt_of_le bl5 hb.size
    have bl6 := Nat.lt_of_lt_of_le bl6 hb.size
    have r_a := r_a.below (hb.mono (by omega))
    have r_b := r_b.below (hb.mono (by omega))
    have r_v := r_v.below (hb.mono (by omega))
    have o_v := own_ext o_v hb
    have r_x := r_x.below (hb.mono (by omega))
    have o_x := own_ext o_x hb
    have r_y := r_y.below (hb.mono (by omega))
    have o_y := own_ext o_y hb
    have r_g := r_g.below (hb.mono (by omega))
    have o_g := own_ext o_g hb
    have r_z := r_z.below (hb.mono (by omega))
    have o_z := own_ext o_z hb
    clear hb
    go_wp2_with fail
    go_region_held3 (fun w' => w'.cell? ⟨w4.heap.size, 0, none⟩ = some (.slice (some ⟨g_y, 0, none⟩) n' n') ∧ w'.cell? ⟨w.heap.size, 0, none⟩ = some (.slice A' n' c')) (exact ⟨bx4_0, bx0_0⟩)
      (first
        | (go_at_call 19; have hb : Below w10.heap.size w10 w10.drew := (Below.refl _ _).drew; generalize hW0 : w10.drew = w11 at *; clear hW0; have k11 : Below w.heap.size w w11 := ext_step k10 (by omega) hb; have p11 := hb.size; have bx0_0 := ccell hb _ _ _ bx0_0; have bx1_0 := ccell hb _ _ _ bx1_0; have bx1_1 := ccell hb _ _ _ bx1_1; have bx1_2 := ccell hb _ _ _ bx1_2; have bx1_3 := ccell hb _ _ _ bx1_3; have bx2_0 := ccell hb _ _ _ bx2_0; have bx3_0 := ccell hb _ _ _ bx3_0; have bx3_1 := ccell hb _ _ _ bx3_1; have bx3_2 := ccell hb _ _ _ bx3_2; have bx3_3 := ccell hb _ _ _ bx3_3; have bx4_0 := ccell hb _ _ _ bx4_0; have bx5_0 := ccell hb _ _ _ bx5_0; have bx6_0 := ccell hb _ _ _ bx6_0; have bx6_1 := ccell hb _ _ _ bx6_1; have bx6_2 := ccell hb _ _ _ bx6_2; have bx6_3 := ccell hb _ _ _ bx6_3; have bl0 := Nat.lt_of_lt_of_le bl0 hb.size; have bl1 := Nat.lt_of_lt_of_le bl1 hb.size; have bl2 := Nat.lt_of_lt_of_le bl2 hb.size; have bl3 := Nat.lt_of_lt_of_le bl3 hb.size; have bl4 := Nat.lt_of_lt_of_le bl4 hb.size; have bl5 := Nat.lt_of_lt_of_le bl5 hb.size; have bl6 := Nat.lt_of_lt_of_le bl6 hb.size; have r_a := r_a.below (hb.mono (by omega)); have r_b := r_b.below (hb.mono (by omega)); have r_v := r_v.below (hb.mono (by omega)); have o_v := own_ext o_v hb; have r_x := r_x.below (hb.mono (by omega)); have o_x := own_ext o_x hb; have r_y := r_y.below (hb.mono (by omega)); have o_y := own_ext o_y hb; have r_g := r_g.below (hb.mono (by omega)); have o_g := own_ext o_g hb; clear hb; refine (toMemory_c _ _ _ l' _ hn_b hs_b (r_b.more (by omega))).mono ?_; rintro e w12 ⟨g_z, rfl, hg_z, b_z, hb⟩; have k12 : Below w.heap.size w w12 := ext_step k11 (by omega) hb; have p12 := hb.size; have bx0_0 := ccell hb _ _ _ bx0_0; have bx1_0 := ccell hb _ _ _ bx1_0; have bx1_1 := ccell hb _ _ _ bx1_1; have bx1_2 := ccell hb _ _ _ bx1_2; have bx1_3 := ccell hb _ _ _ bx1_3; have bx2_0 := ccell hb _ _ _ bx2_0; have bx3_0 := ccell hb _ _ _ bx3_0; have bx3_1 := ccell hb _ _ _ bx3_1; have bx3_2 := ccell hb _ _ _ bx3_2; have bx3_3 := ccell hb _ _ _ bx3_3; have bx4_0 := ccell hb _ _ _ bx4_0; have bx5_0 := ccell hb _ _ _ bx5_0; have bx6_0 := ccell hb _ _ _ bx6_0; have bx6_1 := ccell hb _ _ _ bx6_1; have bx6_2 := ccell hb _ _ _ bx6_2; have bx6_3 := ccell hb _ _ _ bx6_3; have bl0 := Nat.lt_of_lt_of_le bl0 hb.size; have bl1 := Nat.lt_of_lt_of_le bl1 hb.size; have bl2 := Nat.lt_of_lt_of_le bl2 hb.size; have bl3 := Nat.lt_of_lt_of_le bl3 hb.size; have bl4 := Nat.lt_of_lt_of_le bl4 hb.size; have bl5 := Nat.lt_of_lt_of_le bl5 hb.size; have bl6 := Nat.lt_of_lt_of_le bl6 hb.size; have r_a := r_a.below (hb.mono (by omega)); have r_b := r_b.below (hb.mono (by omega)); have r_v := r_v.below (hb.mono (by omega)); have o_v := own_ext o_v hb; have r_x := r_x.below (hb.mono (by omega)); have o_x := own_ext o_x hb; have r_y := r_y.below (hb.mono (by omega)); have o_y := own_ext o_y hb; have r_g := r_g.below (hb.mono (by omega)); have o_g := own_ext o_g hb; have r_z := b_z.reads (size := 1) (n := n') (by rw [flatMap_len _ 1 (fun _ => rfl), hn_b]); have o_z := b_z.own (base := w11.heap.size) (size := 1) (n := n') hg_z (by rw [flatMap_len _ 1 (fun _ => rfl), hn_b]) (by unfold maxLen; omega) rfl; have u_z := fun k hk => (o_z.lt k hk).2; clear hb)
        | (go_at_call 22; refine (eqMemory_c _ _ _ _ _ l' _ hn_b (by omega) (r_y.more (by omega)) (r_z.more (by omega))).mono ?_; rintro e w13 ⟨rfl, hb⟩; have k13 : Below w.heap.size w w13 := ext_step k12 (by omega) hb; have p13 := hb.size; have bx0_0 := ccell hb _ _ _ bx0_0; have bx1_0 := ccell hb _ _ _ bx1_0; have bx1_1 := ccell hb _ _ _ bx1_1; have bx1_2 := ccell hb _ _ _ bx1_2; have bx1_3 := ccell hb _ _ _ bx1_3; have bx2_0 := ccell hb _ _ _ bx2_0; have bx3_0 := ccell hb _ _ _ bx3_0; have bx3_1 := ccell hb _ _ _ bx3_1; have bx3_2 := ccell hb _ _ _ bx3_2; have bx3_3 := ccell hb _ _ _ bx3_3; have bx4_0 := ccell hb _ _ _ bx4_0; have bx5_0 := ccell hb _ _ _ bx5_0; have bx6_0 := ccell hb _ _ _ bx6_0; have bx6_1 := ccell hb _ _ _ bx6_1; have bx6_2 := ccell hb _ _ _ bx6_2; have bx6_3 := ccell hb _ _ _ bx6_3; have bl0 := Nat.lt_of_lt_of_le bl0 hb.size; have bl1 := Nat.lt_of_lt_of_le bl1 hb.size; have bl2 := Nat.lt_of_lt_of_le bl2 hb.size; have bl3 := Nat.lt_of_lt_of_le bl3 hb.size; have bl4 := Nat.lt_of_lt_of_le bl4 hb.size; have bl5 := Nat.lt_of_lt_of_le bl5 hb.size; have bl6 := Nat.lt_of_lt_of_le bl6 hb.size; have r_a := r_a.below (hb.mono (by omega)); have r_b := r_b.below (hb.mono (by omega)); have r_v := r_v.below (hb.mono (by omega)); have o_v := own_ext o_v hb; have r_x := r_x.below (hb.mono (by omega)); have o_x := own_ext o_x hb; have r_y := r_y.below (hb.mono (by omega)); have o_y := own_ext o_y hb; have r_g := r_g.below (hb.mono (by omega)); have o_g := own_ext o_g hb; have r_z := r_z.below (hb.mono (by omega)); have o_z := own_ext o_z hb; clear hb))
    go_wp2_with fail
    refine (markMappingS_c _ _ _ _ _ _ _ o_x (by omega) (by omega) (by omega)).mono ?_
    rintro e w14 ⟨rfl, om, hg⟩
    have k14 : Below w.heap.size w w14 := below_app k13 (own_base o_x (by omega)) hg (by omega)
    have p14 := hg.size
    have bx0_0 := cell_off hg bx0_0 (fun g h1 => by have := (o_x.lt g h1).1; have := u_x g h1; omega)
    have bx1_0 := cell_off hg bx1_0 (fun g h1 => by have := (o_x.lt g h1).1; have := u_x g h1; omega)
    have bx1_1 := cell_off hg bx1_1 (fun g h1 => by have := (o_x.lt g h1).1; have := u_x g h1; omega)
    have bx1_2 := cell_off hg bx1_2 (fun g h1 => by have := (o_x.lt g h1).1; have := u_x g h1; omega)
    have bx1_3 := cell_off hg bx1_3 (fun g h1 => by have := (o_x.lt g h1).1; have := u_x g h1; omega)
    have bx2_0 := cell_off hg bx2_0 (fun g h1 => by have := (o_x.lt g h1).1; have := u_x g h1; omega)
    have bx3_0 := cell_off hg bx3_0 (fun g h1 => by have := (o_x.lt g h1).1; have := u_x g h1; omega)
    have bx3_1 := cell_off hg bx3_1 (fun g h1 => by have := (o_x.lt g h1).1; have := u_x g h1; omega)
    have bx3_2 := cell_off hg bx3_2 (fun g h1 => by have := (o_x.lt g h1).1; have := u_x g h1; omega)
    have bx3_3 := cell_off hg bx3_3 (fun g h1 => by have := (o_x.lt g h1).1; have := u_x g h1; omega)
    have bx4_0 := cell_off hg bx4_0 (fun g h1 => by have := (o_x.lt g h1).1; have := u_x g h1; omega)
    have bx5_0 := cell_off hg bx5_0 (fun g h1 => by have := (o_x.lt g h1).1; have := u_x g h1; omega)
    have bx6_0 := cell_off hg bx6_0 (fun g h1 => by have := (o_x.lt g h1).1; have := u_x g h1; omega)
    have bx6_1 := cell_off hg bx6_1 (fun g h1 => by have := (o_x.lt g h1).1; have := u_x g h1; omega)
    have bx6_2 := cell_off hg bx6_2 (fun g h1 => by have := (o_x.lt g h1).1; have := u_x g h1; omega)
    have bx6_3 := cell_off hg bx6_3 (fun g h1 => by have := (o_x.lt g h1).1; have := u_x g h1; omega)
    have bl0 := Nat.lt_of_lt_of_le bl0 hg.size
    have bl1 := Nat.lt_of_lt_of_le bl1 hg.size
    have bl2 := Nat.lt_of_lt_of_le bl2 hg.size
    have bl3 := Nat.lt_of_lt_of_le bl3 hg.size
    have bl4 := Nat.lt_of_lt_of_le bl4 hg.size
    have bl5 := Nat.lt_of_lt_of_le bl5 hg.size
    have bl6 := Nat.lt_of_lt_of_le bl6 hg.size
    have r_a := r_a.grown hg (by omega) (fun g hg => Nat.le_trans (by omega) (o_x.lt g hg).1)
    have r_b := r_b.grown hg (by omega) (fun g hg => Nat.le_trans (by omega) (o_x.lt g hg).1)
    have o_v := own_far o_v hg (fun g h1 h2 => by have := u_v g h1; have := (o_x.lt g h2).1; omega)
    have r_v := (Reads.of_own o_v)
    have o_y := own_far o_y hg (fun g h1 h2 => by have := (o_y.lt g h1).1; have := u_x g h2; omega)
    have r_y := (Reads.of_own o_y)
    have o_g := own_far o_g hg (fun g h1 h2 => by have := (o_g.lt g h1).1; have := u_x g h2; omega)
    have r_g := (Reads.of_own o_g)
    have o_x := om
    have r_x := Reads.of_own o_x
    clear hg om
    go_wp2_with fail
    refine (markMemory_c _ _ _ _ _ _ _ o_y (by omega) (by omega) (by omega)).mono ?_
    rintro e w15 ⟨rfl, om, hg⟩
    have k15 : Below w.heap.size w w15 := below_app k14 (own_base o_y (by omega)) hg (by omega)
    have p15 := hg.size
    have bx0_0 := cell_off hg bx0_0 (fun g h1 => by have := (o_y.lt g h1).1; have := u_y g h1; omega)
    have bx1_0 := cell_off hg bx1_0 (fun g h1 => by have := (o_y.lt g h1).1; have := u_y g h1; omega)
    have bx1_1 := cell_off hg bx1_1 (fun g h1 => by have := (o_y.lt g h1).1; have := u_y g h1; omega)
    have bx1_2 := cell_off hg bx1_2 (fun g h1 => by have := (o_y.lt g h1).1; have := u_y g h1; omega)
    have bx1_3 := cell_off hg bx1_3 (fun g h1 => by have := (o_y.lt g h1).1; have := u_y g h1; omega)
    have bx2_0 := cell_off hg bx2_0 (fun g h1 => by have := (o_y.lt g h1).1; have := u_y g h1; omega)
    have bx3_0 := cell_off hg bx3_0 (fun g h1 => by have := (o_y.lt g h1).1; have := u_y g h1; omega)
    have bx3_1 := cell_off hg bx3_1 (fun g h1 => by have := (o_y.lt g h1).1; have := u_y g h1; omega)
    have bx3_2 := cell_off hg bx3_2 (fun g h1 => by have := (o_y.lt g h1).1; have := u_y g h1; omega)
    have bx3_3 := cell_off hg bx3_3 (fun g h1 => by have := (o_y.lt g h1).1; have := u_y g h1; omega)
    have bx4_0 := cell_off hg bx4_0 (fun g h1 => by have := (o_y.lt g h1).1; have := u_y g h1; omega)
    have bx5_0 := cell_off hg bx5_0 (fun g h1 => by have := (o_y.lt g h1).1; have := u_y g h1; omega)
    have bx6_0 := cell_off hg bx6_0 (fun g h1 => by have := (o_y.lt g h1).1; have := u_y g h1; omega)
    have bx6_1 := cell_off hg bx6_1 (fun g h1 => by have := (o_y.lt g h1).1; have := u_y g h1; omega)
    have bx6_2 := cell_off hg bx6_2 (fun g h1 => by have := (o_y.lt g h1).1; have := u_y g h1; omega)
    have bx6_3 := cell_off hg bx6_3 (fun g h1 => by have := (o_y.lt g h1).1; have := u_y g h1; omega)
    have bl0 := Nat.lt_of_lt_of_le bl0 hg.size
    have bl1 := Nat.lt_of_lt_of_le bl1 hg.size
    have bl2 := Nat.lt_of_lt_of_le bl2 hg.size
    have bl3 := Nat.lt_of_lt_of_le bl3 hg.size
    have bl4 := Nat.lt_of_lt_of_le bl4 hg.size
    have bl5 := Nat.lt_of_lt_of_le bl5 hg.size
    have bl6 := Nat.lt_of_lt_of_le bl6 hg.size
    have r_a := r_a.grown hg (by omega) (fun g hg => Nat.le_trans (by omega) (o_y.lt g hg).1)
    have r_b := r_b.grown hg (by omega) (fun g hg => Nat.le_trans (by omega) (o_y.lt g hg).1)
    have o_v := own_far o_v hg (fun g h1 h2 => by have := u_v g h1; have := (o_y.lt g h2).1; omega)
    have r_v := (Reads.of_own o_v)
    have o_g := own_far o_g hg (fun g h1 h2 => by have := (o_g.lt g h1).1; have := u_y g h2; omega)
    have r_g := (Reads.of_own o_g)
    have o_y := om
    have r_y := Reads.of_own o_y
    clear hg om
    go_wp2_with fail
    refine (eqMemory_c _ _ _ _ _ lw _ hn_v (by omega) (r_g.more (by omega)) (r_v.more (by omega))).mono ?_
    rintro e w16 ⟨rfl, hb⟩
    have k16 : Below w.heap.size w w16 := ext_step k15 (by omega) hb
    have p16 := hb.size
    have bx0_0 := ccell hb _ _ _ bx0_0
    have bx1_0 := ccell hb _ _ _ bx1_0
    have bx1_1 := ccell hb _ _ _ bx1_1
    have bx1_2 := ccell hb _ _ _ bx1_2
    have bx1_3 := ccell hb _ _ _ bx1_3
    have bx2_0 := ccell hb _ _ _ bx2_0
    have bx3_0 := ccell hb _ _ _ bx3_0
    have bx3_1 := ccell hb _ _ _ bx3_1
    have bx3_2 := ccell hb _ _ _ bx3_2
    have bx3_3 := ccell hb _ _ _ bx3_3
    have bx4_0 := ccell hb _ _ _ bx4_0
    have bx5_0 := ccell hb _ _ _ bx5_0
    have bx6_0 := ccell hb _ _ _ bx6_0
    have bx6_1 := ccell hb _ _ _ bx6_1
    have bx6_2 := ccell hb _ _ _ bx6_2
    have bx6_3 := ccell hb _ _ _ bx6_3
    have bl0 := Nat.lt_of_lt_of_le bl0 hb.size
    have bl1 := Nat.lt_of_lt_of_le bl1 hb.size
    have bl2 := Nat.lt_of_lt_of_le bl2 hb.size
    have bl3 := Nat.lt_of_lt_of_le bl3 hb.size
    have bl4 := Nat.lt_of_lt_of_le bl4 hb.size
    have bl5 := Nat.lt_of_lt_of_le bl5 hb.size
    have bl6 := Nat.lt_of_lt_of_le bl6 hb.size
    have r_a := r_a.below (hb.mono (by omega))
    have r_b := r_b.below (hb.mono (by omega))
    have r_v := r_v.below (hb.mono (by omega))
    have o_v := own_ext o_v hb
    have r_g := r_g.below (hb.mono (by omega))
    have o_g := own_ext o_g hb
    clear hb
    go_wp2_with fail
    refine (eqRing_c _ _ _ _ _).mono ?_
    rintro e w17 ⟨rfl, hb⟩
    have k17 : Below w.heap.size w w17 := ext_step k16 (by omega) hb
    have p17 := hb.size
    have bx0_0 := ccell hb _ _ _ bx0_0
    have bx1_0 := ccell hb _ _ _ bx1_0
    have bx1_1 := ccell hb _ _ _ bx1_1
    have bx1_2 := ccell hb _ _ _ bx1_2
    have bx1_3 := ccell hb _ _ _ bx1_3
    have bx2_0 := ccell hb _ _ _ bx2_0
    have bx3_0 := ccell hb _ _ _ bx3_0
    have bx3_1 := ccell hb _ _ _ bx3_1
    have bx3_2 := ccell hb _ _ _ bx3_2
    have bx3_3 := ccell hb _ _ _ bx3_3
    have bx4_0 := ccell hb _ _ _ bx4_0
    have bx5_0 := ccell hb _ _ _ bx5_0
    have bx6_0 := ccell hb _ _ _ bx6_0
    have bx6_1 := ccell hb _ _ _ bx6_1
    have bx6_2 := ccell hb _ _ _ bx6_2
    have bx6_3 := ccell hb _ _ _ bx6_3
    have bl0 := Nat.lt_of_lt_of_le bl0 hb.size
    have bl1 := Nat.lt_of_lt_of_le bl1 hb.size
    have bl2 := Nat.lt_of_lt_of_le bl2 hb.size
    have bl3 := Nat.lt_of_lt_of_le bl3 hb.size
    have bl4 := Nat.lt_of_lt_of_le bl4 hb.size
    have bl5 := Nat.lt_of_lt_of_le bl5 hb.size
    have bl6 := Nat.lt_of_lt_of_le bl6 hb.size
    have r_a := r_a.below (hb.mono (by omega))
    have r_b := r_b.below (hb.mono (by omega))
    have r_v := r_v.below (hb.mono (by omega))
    have o_v := own_ext o_v hb
    have r_g := r_g.below (hb.mono (by omega))
    have o_g := own_ext o_g hb
    clear hb
    go_wp2_with fail
    refine (markMemory_c _ _ _ _ _ _ _ o_g (by omega) (by omega) (by omega)).mono ?_
    rintro e w18 ⟨rfl, om, hg⟩
    have k18 : Below w.heap.size w w18 := below_app k17 (own_base o_g (by omega)) hg (by omega)
    have p18 := hg.size
    have bx0_0 := cell_off hg bx0_0 (fun g h1 => by have := (o_g.lt g h1).1; have := u_g g h1; have := nb_g_5 g h1; have := nb_g_6 g h1; omega)
    have bx1_0 := cell_off hg bx1_0 (fun g h1 => by have := (o_g.lt g h1).1; have := u_g g h1; have := nb_g_5 g h1; have := nb_g_6 g h1; omega)
    have bx1_1 := cell_off hg bx1_1 (fun g h1 => by have := (o_g.lt g h1).1; have := u_g g h1; have := nb_g_5 g h1; have := nb_g_6 g h1; omega)
    have bx1_2 := cell_off hg bx1_2 (fun g h1 => by have := (o_g.lt g h1).1; have := u_g g h1; have := nb_g_5 g h1; have := nb_g_6 g h1; omega)
    have bx1_3 := cell_off hg bx1_3 (fun g h1 => by have := (o_g.lt g h1).1; have := u_g g h1; have := nb_g_5 g h1; have := nb_g_6 g h1; omega)
    have bx2_0 := cell_off hg bx2_0 (fun g h1 => by have := (o_g.lt g h1).1; have := u_g g h1; have := nb_g_5 g h1; have := nb_g_6 g h1; omega)
    have bx3_0 := cell_off hg bx3_0 (fun g h1 => by have := (o_g.lt g h1).1; have := u_g g h1; have := nb_g_5 g h1; have := nb_g_6 g h1; omega)
    have bx3_1 := cell_off hg bx3_1 (fun g h1 => by have := (o_g.lt g h1).1; have := u_g g h1; have := nb_g_5 g h1; have := nb_g_6 g h1; omega)
    have bx3_2 := cell_off hg bx3_2 (fun g h1 => by have := (o_g.lt g h1).1; have := u_g g h1; have := nb_g_5 g h1; have := nb_g_6 g h1; omega)
    have bx3_3 := cell_off hg bx3_3 (fun g h1 => by have := (o_g.lt g h1).1; have := u_g g h1; have := nb_g_5 g h1; have := nb_g_6 g h1; omega)
    have bx4_0 := cell_off hg bx4_0 (fun g h1 => by have := (o_g.lt g h1).1; have := u_g g h1; have := nb_g_5 g h1; have := nb_g_6 g h1; omega)
    have bx5_0 := cell_off hg bx5_0 (fun g h1 => by have := (o_g.lt g h1).1; have := u_g g h1; have := nb_g_5 g h1; have := nb_g_6 g h1; omega)
    have bx6_0 := cell_off hg bx6_0 (fun g h1 => by have := (o_g.lt g h1).1; have := u_g g h1; have := nb_g_5 g h1; have := nb_g_6 g h1; omega)
    have bx6_1 := cell_off hg bx6_1 (fun g h1 => by have := (o_g.lt g h1).1; have := u_g g h1; have := nb_g_5 g h1; have := nb_g_6 g h1; omega)
    have bx6_2 := cell_off hg bx6_2 (fun g h1 => by have := (o_g.lt g h1).1; have := u_g g h1; have := nb_g_5 g h1; have := nb_g_6 g h1; omega)
    have bx6_3 := cell_off hg bx6_3 (fun g h1 => by have := (o_g.lt g h1).1; have := u_g g h1; have := nb_g_5 g h1; have := nb_g_6 g h1; omega)
    have bl0 := Nat.lt_of_lt_of_le bl0 hg.size
    have bl1 := Nat.lt_of_lt_of_le bl1 hg.size
    have bl2 := Nat.lt_of_lt_of_le bl2 hg.size
    have bl3 := Nat.lt_of_lt_of_le bl3 hg.size
    have bl4 := Nat.lt_of_lt_of_le bl4 hg.size
    have bl5 := Nat.lt_of_lt_of_le bl5 hg.size
    have bl6 := Nat.lt_of_lt_of_le bl6 hg.size
    have r_a := r_a.grown hg (by omega) (fun g hg => Nat.le_trans (by omega) (o_g.lt g hg).1)
    have r_b := r_b.grown hg (by omega) (fun g hg => Nat.le_trans (by omega) (o_g.lt g hg).1)
    have o_v := own_far o_v hg (fun g h1 h2 => by have := u_v g h1; have := (o_g.lt g h2).1; omega)
    have r_v := (Reads.of_own o_v)
    have o_g := om
    have r_g := Reads.of_own o_g
    clear hg om
    go_wp2_with fail
    refine (heldMemory_c _ _ _ _ _ (r_g.more (by omega)) (by omega) (by omega) (by omega)).mono ?_
    rintro e w19 ⟨rfl, hb⟩
    have k19 : Below w.heap.size w w19 := ext_step k18 (by omega) hb
    have p19 := hb.size
    have bx0_0 := ccell hb _ _ _ bx0_0
    have bx1_0 := ccell hb _ _ _ bx1_0
    have bx1_1 := ccell hb _ _ _ bx1_1
    have bx1_2 := ccell hb _ _ _ bx1_2
    have bx1_3 := ccell hb _ _ _ bx1_3
    have bx2_0 := ccell hb _ _ _ bx2_0
    have bx3_0 := ccell hb _ _ _ bx3_0
    have bx3_1 := ccell hb _ _ _ bx3_1
    have bx3_2 := ccell hb _ _ _ bx3_2
    have bx3_3 := ccell hb _ _ _ bx3_3
    have bx4_0 := ccell hb _ _ _ bx4_0
    have bx5_0 := ccell hb _ _ _ bx5_0
    have bx6_0 := ccell hb _ _ _ bx6_0
    have bx6_1 := ccell hb _ _ _ bx6_1
    have bx6_2 := ccell hb _ _ _ bx6_2
    have bx6_3 := ccell hb _ _ _ bx6_3
    have bl0 := Nat.lt_of_lt_of_le bl0 hb.size
    have bl1 := Nat.lt_of_lt_of_le bl1 hb.size
    have bl2 := Nat.lt_of_lt_of_le bl2 hb.size
    have bl3 := Nat.lt_of_lt_of_le bl3 hb.size
    have bl4 := Nat.lt_of_lt_of_le bl4 hb.size
    have bl5 := Nat.lt_of_lt_of_le bl5 hb.size
    have bl6 := Nat.lt_of_lt_of_le bl6 hb.size
    have r_a := r_a.below (hb.mono (by omega))
    have r_b := r_b.below (hb.mono (by omega))
    have r_v := r_v.below (hb.mono (by omega))
    have o_v := own_ext o_v hb
    have r_g := r_g.below (hb.mono (by omega))
    have o_g := own_ext o_g hb
    clear hb
    go_wp2_with fail
    refine wp_region_slotsS (w19.heap.size) [(129, fun _ v => v = .slice A n c), (130, RowP w19.heap.size 77 4 n (l.flatMap Mapping.cells) (fun A c => .slice A n c)), (131, fun _ v => v = .agg #[.slice A' n' c']), (132, RowP w19.heap.size 9 1 n' (l'.flatMap fun x : ByteArray => [Value.string x]) (fun A c => .agg #[.slice A n' c])), (133, fun _ v => v = .int .i64 d), (134, fun _ v => v = .agg #[.int .i64 base, .int .i64 size, .int .i64 head, .int .i64 tail]), (135, fun _ v => v = .agg #[.int .i64 base, .int .i64 size, .int .i64 head, .int .i64 tail]), (136, fun _ v => v = .string s), (137, RowP w19.heap.size 9 1 n' (lw.flatMap fun x : ByteArray => [Value.string x]) (fun A c => .tuple #[.agg #[.slice A n' c], .agg #[.int .i64 base, .int .i64 size, .int .i64 head, .int .i64 tlo], .bool bo])), (128, RowP w19.heap.size 9 1 n' (lw.flatMap fun x : ByteArray => [Value.string x]) (fun A c => .tuple #[.agg #[.slice A n' c], .agg #[.int .i64 base, .int .i64 size, .int .i64 head, .int .i64 tlo], .bool bo])), (138, RowP w19.heap.size 9 1 n' (lw.flatMap fun x : ByteArray => [Value.string x]) (fun A c => .agg #[.slice A n' c])), (139, fun _ v => v = .agg #[.int .i64 base, .int .i64 size, .int .i64 head, .int .i64 tlo]), (140, fun _ v => v = .bool bo), (23, BoxP w19.heap.size 32 1), (24, BoxP w19.heap.size 56 4), (25, fun _ v => v = .bool bo)] [⟨15, 23, fun _ => True, StoR w19.heap.size 32 9 1 n' (lw.flatMap fun x : ByteArray => [Value.string x]) (fun A c => [.slice A n' c])⟩, ⟨16, 24, fun _ => True, StoP w19.heap.size 56 [.int .i64 base, .int .i64 size, .int .i64 head, .int .i64 tlo]⟩] (fun _ => True) (by kernel_rfl) (by omega) (by kernel_rfl) (by kernel_rfl) (by kernel_rfl) (by kernel_rfl) ?_ ?_ ?_ ?_ ?_ ?_ ?_
    · intro p hp
      simp only [List.mem_cons, List.not_mem_nil, or_false] at hp
      rcases hp with rfl | rfl | rfl | rfl | rfl | rfl | rfl | rfl | rfl | rfl | rfl | rfl | rfl | rfl | rfl | rfl
      all_goals (intro u u' v hb hv; first | exact hv | exact BoxP.keep hv hb | exact RowP.keep hv hb)
    · intro s hs u u' hb
      simp only [List.mem_cons, List.not_mem_nil, or_false] at hs
      rcases hs with rfl | rfl
      all_goals (refine ⟨fun h => ?_, fun _ h => ?_⟩ <;> first | exact h | exact StoP.keep h hb | exact StoR.keep h hb | exact Blk.ext h hb | exact StaR.keep h hb)
    · intro s hs
      simp only [List.mem_cons, List.not_mem_nil, or_false] at hs
      rcases hs with rfl | rfl
      all_goals first | trivial
    · exact trivial
    · intro u u' hb hj
      exact trivial
    · intro hGk hSk hJk
      refine allStep_cons (stepS_plain hGk hSk (by omega) hJk (by kernel_rfl) rfl ?_) ?_
      · intro a u hb hz hj hl hp K Q hK
        have e0 : a.tmps[0]?.getD undef = .slice A n c := gd (hl 0 (by kernel_rfl))
        go_simp
        exact hK _ _ (Below.refl _ _) (by intro d hd; cases hd; exact rfl)
      refine allStep_cons (stepS_plain hGk hSk (by omega) hJk (by kernel_rfl) rfl ?_) ?_
      · intro a u hb hz hj hl hp K Q hK
        have e129 : a.tmps[129]?.getD undef = .slice A n c := gd (hl 129 (by kernel_rfl))
        go_simp
        refine (toMappingS_c _ _ _ l _ hn_a hs_a ((r_a.below (hb.mono (by omega))).more (by omega))).mono ?_
        rintro e u1 ⟨g, rfl, hg, bb, hb1⟩
        exact hK _ _ hb1 (by intro d hd; cases hd; exact ⟨_, _, rfl, bb.own (base := w19.heap.size) (size := 4) (n := n) (by omega) (by rw [flatMap_len _ 4 (fun _ => rfl), hn_a]) (by unfold maxLen; omega) rfl⟩)
      refine allStep_cons (stepS_plain hGk hSk (by omega) hJk (by kernel_rfl) rfl ?_) ?_
      · intro a u hb hz hj hl hp K Q hK
        have e6 : a.tmps[6]?.getD undef = .pointer (some ⟨w.heap.size, 0, none⟩) := gd (hl 6 (by kernel_rfl))
        have bx0_0 := ccell hb _ _ _ bx0_0
        go_simp
        exact hK _ _ (Below.refl _ _) (by intro d hd; cases hd; exact rfl)
      refine allStep_cons (stepS_plain hGk hSk (by omega) hJk (by kernel_rfl) rfl ?_) ?_
      · intro a u hb hz hj hl hp K Q hK
        have e131 : a.tmps[131]?.getD undef = .agg #[.slice A' n' c'] := gd (hl 131 (by kernel_rfl))
        go_simp
        refine (toMemory_c _ _ _ l' _ hn_b hs_b ((r_b.below (hb.mono (by omega))).more (by omega))).mono ?_
        rintro e u1 ⟨g, rfl, hg, bb, hb1⟩
        exact hK _ _ hb1 (by intro d hd; cases hd; exact ⟨_, _, rfl, bb.own (base := w19.heap.size) (size := 1) (n := n') (by omega) (by rw [flatMap_len _ 1 (fun _ => rfl), hn_b]) (by unfold maxLen; omega) rfl⟩)
      refine allStep_cons (stepS_plain hGk hSk (by omega) hJk (by kernel_rfl) rfl ?_) ?_
      · intro a u hb hz hj hl hp K Q hK
        have e2 : a.tmps[2]?.getD undef = .int .i64 d := gd (hl 2 (by kernel_rfl))
        go_simp
        exact hK _ _ (Below.refl _ _) (by intro d hd; cases hd; exact rfl)
      refine allStep_cons (stepS_plain hGk hSk (by omega) hJk (by kernel_rfl) rfl ?_) ?_
      · intro a u hb hz hj hl hp K Q hK
        have e8 : a.tmps[8]?.getD undef = .pointer (some ⟨w.heap.size + 1, 0, none⟩) := gd (hl 8 (by kernel_rfl))
        have bx1_0 := ccell hb _ _ _ bx1_0
        have bx1_1 := ccell hb _ _ _ bx1_1
        have bx1_2 := ccell hb _ _ _ bx1_2
        have bx1_3 := ccell hb _ _ _ bx1_3
        go_simp
        exact hK _ _ (Below.refl _ _) (by intro d hd; cases hd; exact rfl)
      refine allStep_cons (stepS_plain hGk hSk (by omega) hJk (by kernel_rfl) rfl ?_) ?_
      · intro a u hb hz hj hl hp K Q hK
        have e134 : a.tmps[134]?.getD undef = .agg #[.int .i64 base, .int .i64 size, .int .i64 head, .int .i64 tail] := gd (hl 134 (by kernel_rfl))
        go_simp
        refine (toRing_c _ _ _ _ _).mono ?_
        rintro e u1 ⟨rfl, hb1⟩
        exact hK _ _ hb1 (by intro d hd; cases hd; exact rfl)
      refine allStep_cons (stepS_plain hGk hSk (by omega) hJk (by kernel_rfl) rfl ?_) ?_
      · intro a u hb hz hj hl hp K Q hK
        have e4 : a.tmps[4]?.getD undef = .string s := gd (hl 4 (by kernel_rfl))
        go_simp
        exact hK _ _ (Below.refl _ _) (by intro d hd; cases hd; exact rfl)
      refine allStep_cons (stepS_plain hGk hSk (by omega) hJk (by kernel_rfl) rfl ?_) ?_
      · intro a u hb hz hj hl hp K Q hK
        obtain ⟨A1, c1, ex130, o1⟩ : RowP w19.heap.size 77 4 n (l.flatMap Mapping.cells) (fun A c => .slice A n c) u (a.tmps.getD 130 undef) := hl 130 (by kernel_rfl)
        have e130 := gd ex130
        obtain ⟨A2, c2, ex132, o2⟩ : RowP w19.heap.size 9 1 n' (l'.flatMap fun x : ByteArray => [Value.string x]) (fun A c => .agg #[.slice A n' c]) u (a.tmps.getD 132 undef) := hl 132 (by kernel_rfl)
        have e132 := gd ex132
        have e133 : a.tmps[133]?.getD undef = .int .i64 d := gd (hl 133 (by kernel_rfl))
        have e135 : a.tmps[135]?.getD undef = .agg #[.int .i64 base, .int .i64 size, .int .i64 head, .int .i64 tail] := gd (hl 135 (by kernel_rfl))
        have e136 : a.tmps[136]?.getD undef = .string s := gd (hl 136 (by kernel_rfl))
        go_simp
        refine (himpl _ _ _ _ _ hs_a hs_b (Reads.of_own o1) (Reads.of_own o2)).mono ?_
        rintro e u1 ⟨A_h, c_h, rfl, o_h, hb1⟩
        exact hK _ _ hb1 (by intro d hd; cases hd; exact ⟨A_h, c_h, rfl, own_base o_h (by omega)⟩)
      refine allStep_cons (stepS_plain hGk hSk (by omega) hJk (by kernel_rfl) rfl ?_) ?_
      · intro a u hb hz hj hl hp K Q hK
        obtain ⟨A1, c1, ex137, o1⟩ : RowP w19.heap.size 9 1 n' (lw.flatMap fun x : ByteArray => [Value.string x]) (fun A c => .tuple #[.agg #[.slice A n' c], .agg #[.int .i64 base, .int .i64 size, .int .i64 head, .int .i64 tlo], .bool bo]) u (a.tmps.getD 137 undef) := hl 137 (by kernel_rfl)
        have e137 := gd ex137
        go_simp
        exact hK _ _ (Below.refl _ _) (by intro d hd; cases hd; exact ⟨A1, c1, rfl, o1⟩)
      refine allStep_cons (stepS_plain hGk hSk (by omega) hJk (by kernel_rfl) rfl ?_) ?_
      · intro a u hb hz hj hl hp K Q hK
        obtain ⟨A1, c1, ex128, o1⟩ : RowP w19.heap.size 9 1 n' (lw.flatMap fun x : ByteArray => [Value.string x]) (fun A c => .tuple #[.agg #[.slice A n' c], .agg #[.int .i64 base, .int .i64 size, .int .i64 head, .int .i64 tlo], .bool bo]) u (a.tmps.getD 128 undef) := hl 128 (by kernel_rfl)
        have e128 := gd ex128
        go_simp
        exact hK _ _ (Below.refl _ _) (by intro d hd; cases hd; exact ⟨A1, c1, rfl, o1⟩)
      refine allStep_cons (stepS_plain hGk hSk (by omega) hJk (by kernel_rfl) rfl ?_) ?_
      · intro a u hb hz hj hl hp K Q hK
        obtain ⟨A1, c1, ex128, o1⟩ : RowP w19.heap.size 9 1 n' (lw.flatMap fun x : ByteArray => [Value.string x]) (fun A c => .tuple #[.agg #[.slice A n' c], .agg #[.int .i64 base, .int .i64 size, .int .i64 head, .int .i64 tlo], .bool bo]) u (a.tmps.getD 128 undef) := hl 128 (by kernel_rfl)
        have e128 := gd ex128
        go_simp
        exact hK _ _ (Below.refl _ _) (by intro d hd; cases hd; exact rfl)
      refine allStep_cons (stepS_plain hGk hSk (by omega) hJk (by kernel_rfl) rfl ?_) ?_
      · intro a u hb hz hj hl hp K Q hK
        obtain ⟨A1, c1, ex128, o1⟩ : RowP w19.heap.size 9 1 n' (lw.flatMap fun x : ByteArray => [Value.string x]) (fun A c => .tuple #[.agg #[.slice A n' c], .agg #[.int .i64 base, .int .i64 size, .int .i64 head, .int .i64 tlo], .bool bo]) u (a.tmps.getD 128 undef) := hl 128 (by kernel_rfl)
        have e128 := gd ex128
        go_simp
        exact hK _ _ (Below.refl _ _) (by intro d hd; cases hd; exact rfl)
      refine allStep_cons (stepS_plain hGk hSk (by omega) hJk (by kernel_rfl) rfl ?_) ?_
      · intro a u hb hz hj hl hp K Q hK
        go_simp
        exact hK _ _ (by go_grown) (by intro d hd; cases hd; exact BoxP.new _ _ [.slice none 0 0] (by omega) rfl)
      refine allStep_cons (stepS_plain hGk hSk (by omega) hJk (by kernel_rfl) rfl ?_) ?_
      · intro a u hb hz hj hl hp K Q hK
        go_simp
        exact hK _ _ (by go_grown) (by intro d hd; cases hd; exact BoxP.new _ _ [.int .i64 0, .int .i64 0, .int .i64 0, .int .i64 0] (by omega) rfl)
      refine allStep_cons (stepS_store (Chg w19.heap.size 32) (fun _ _ hc hb => hc.below' (by omega) hb) (fun _ _ hc => hc.size) (hold_rel ?_) ?_ ?_ rfl rfl ?_) ?_
      · intro p hp
        simp only [List.mem_cons, List.not_mem_nil, or_false] at hp
        rcases hp with rfl | rfl | rfl | rfl | rfl | rfl | rfl | rfl | rfl | rfl | rfl | rfl | rfl | rfl | rfl | rfl
        all_goals (intro u u' v hb hv; first | exact hv | exact BoxP.chg hv hb | exact RowP.chg hv hb (by decide))
      · intro s hs hne u u' hb
        simp only [List.mem_cons, List.not_mem_nil, or_false] at hs
        rcases hs with rfl | rfl
        all_goals first | exact absurd (by rfl) hne | (refine ⟨fun h => ?_, fun _ h => ?_⟩ <;> first | exact h | exact StoP.chg h hb (by decide) | exact StoR.chg h hb (by decide) (by decide) | exact Blk.chgL h hb (by omega) | exact StaR.chgL h hb (by omega) (by decide))
      · intro u u' hb hj
        exact trivial
      · intro a u hb hz hj hl hp K Q hK
        obtain ⟨b, exb, hB, zs, hzl, hbk⟩ : BoxP w19.heap.size 32 1 u (a.tmps.getD 23 undef) := hl 23 (by kernel_rfl)
        have e23 := gd exb
        obtain ⟨A2, c2, ex138, o2⟩ : RowP w19.heap.size 9 1 n' (lw.flatMap fun x : ByteArray => [Value.string x]) (fun A c => .agg #[.slice A n' c]) u (a.tmps.getD 138 undef) := hl 138 (by kernel_rfl)
        have e138 := gd ex138
        obtain ⟨z0, rfl⟩ : ∃ z0, zs = [z0] := (by match zs, hzl with | [z0], _ => exact ⟨_, rfl⟩)
        have hlt := hbk.lt
        have g0 : u.cell? ⟨b, 0, none⟩ = some z0 := (hbk.cell 0).trans rfl
        have f0 := hbk.frozen 0
        go_simp
        refine hK undef _ ((Chg.refl _ _ _).set hbk hB 0 _) (fun s hs he => ?_)
        simp only [List.mem_cons, List.not_mem_nil, or_false] at hs
        rcases hs with rfl | rfl
        · exact ⟨b, A2, c2, exb, hB, (hbk.set_ 0 _), own_chg o2 ((Chg.refl _ _ _).set hbk hB 0 _) (by decide)⟩
        · exact absurd (show (16 : Nat) = 15 from he) (by decide)
      refine allStep_cons (stepS_store (Chg w19.heap.size 56) (fun _ _ hc hb => hc.below' (by omega) hb) (fun _ _ hc => hc.size) (hold_rel ?_) ?_ ?_ rfl rfl ?_) ?_
      · intro p hp
        simp only [List.mem_cons, List.not_mem_nil, or_false] at hp
        rcases hp with rfl | rfl | rfl | rfl | rfl | rfl | rfl | rfl | rfl | rfl | rfl | rfl | rfl | rfl | rfl | rfl
        all_goals (intro u u' v hb hv; first | exact hv | exact BoxP.chg hv hb | exact RowP.chg hv hb (by decide))
      · intro s hs hne u u' hb
        simp only [List.mem_cons, List.not_mem_nil, or_false] at hs
        rcases hs with rfl | rfl
        all_goals first | exact absurd (by rfl) hne | (refine ⟨fun h => ?_, fun _ h => ?_⟩ <;> first | exact h | exact StoP.chg h hb (by decide) | exact StoR.chg h hb (by decide) (by decide) | exact Blk.chgL h hb (by omega) | exact StaR.chgL h hb (by omega) (by decide))
      · intro u u' hb hj
        exact trivial
      · intro a u hb hz hj hl hp K Q hK
        obtain ⟨b, exb, hB, zs, hzl, hbk⟩ : BoxP w19.heap.size 56 4 u (a.tmps.getD 24 undef) := hl 24 (by kernel_rfl)
        have e24 := gd exb
        have e139 : a.tmps[139]?.getD undef = .agg #[.int .i64 base, .int .i64 size, .int .i64 head, .int .i64 tlo] := gd (hl 139 (by kernel_rfl))
        obtain ⟨z0, z1, z2, z3, rfl⟩ : ∃ z0 z1 z2 z3, zs = [z0, z1, z2, z3] := (by match zs, hzl with | [z0, z1, z2, z3], _ => exact ⟨_, _, _, _, rfl⟩)
        have hlt := hbk.lt
        have g0 : u.cell? ⟨b, 0, none⟩ = some z0 := (hbk.cell 0).trans rfl
        have f0 := hbk.frozen 0
        have g1 : u.cell? ⟨b, 1, none⟩ = some z1 := (hbk.cell 1).trans rfl
        have f1 := hbk.frozen 1
        have g2 : u.cell? ⟨b, 2, none⟩ = some z2 := (hbk.cell 2).trans rfl
        have f2 := hbk.frozen 2
        have g3 : u.cell? ⟨b, 3, none⟩ = some z3 := (hbk.cell 3).trans rfl
        have f3 := hbk.frozen 3
        go_simp
        refine hK undef _ (((((Chg.refl _ _ _).set hbk hB 0 _).set (hbk.set_ 0 _) hB 1 _).set ((hbk.set_ 0 _).set_ 1 _) hB 2 _).set (((hbk.set_ 0 _).set_ 1 _).set_ 2 _) hB 3 _) (fun s hs he => ?_)
        simp only [List.mem_cons, List.not_mem_nil, or_false] at hs
        rcases hs with rfl | rfl
        · exact absurd (show (15 : Nat) = 16 from he) (by decide)
        · exact ⟨b, exb, hB, ((((hbk.set_ 0 _).set_ 1 _).set_ 2 _).set_ 3 _)⟩
      refine allStep_cons (stepS_plain hGk hSk (by omega) hJk (by kernel_rfl) rfl ?_) ?_
      · intro a u hb hz hj hl hp K Q hK
        have e140 : a.tmps[140]?.getD undef = .bool bo := gd (hl 140 (by kernel_rfl))
        go_simp
        exact hK _ _ (Below.refl _ _) (by intro d hd; cases hd; exact rfl)
      exact allStep_nil
    intro x w20 hb hz hj hL hSt
    have fx25 : x 25 = .bool bo := hL _ (List.mem_of_getElem? (i := 15) rfl)
    obtain ⟨bk_7, A_h, c_h, fx23, lo7, hk7, o_h⟩ : StoR w19.heap.size 32 9 1 n' (lw.flatMap fun x : ByteArray => [Value.string x]) (fun A c => [.slice A n' c]) w20 (x 23) := hSt _ (List.mem_of_getElem? (i := 0) rfl)
    obtain ⟨bk_8, fx24, lo8, hk8⟩ : StoP w19.heap.size 56 [.int .i64 base, .int .i64 size, .int .i64 head, .int .i64 tlo] w20 (x 24) := hSt _ (List.mem_of_getElem? (i := 1) rfl)
    simp only [List.map, putAll, fx25, fx23, fx24]
    have bl7 := hk7.lt
    have bx7_0 : w20.cell? ⟨bk_7, 0, none⟩ = some (.slice A_h n' c_h) := (hk7.cell 0).trans rfl
    have bl8 := hk8.lt
    have bx8_0 : w20.cell? ⟨bk_8, 0, none⟩ = some (.int .i64 base) := (hk8.cell 0).trans rfl
    have bx8_1 : w20.cell? ⟨bk_8, 1, none⟩ = some (.int .i64 size) := (hk8.cell 1).trans rfl
    have bx8_2 : w20.cell? ⟨bk_8, 2, none⟩ = some (.int .i64 head) := (hk8.cell 2).trans rfl
    have bx8_3 : w20.cell? ⟨bk_8, 3, none⟩ = some (.int .i64 tlo) := (hk8.cell 3).trans rfl
    have k20 : Below w.heap.size w w20 := ext_step k19 (by omega) hb
    have p20 := hb.size
    have bx0_0 := ccell hb _ _ _ bx0_0
    have bx1_0 := ccell hb _ _ _ bx1_0
    have bx1_1 := ccell hb _ _ _ bx1_1
    have bx1_2 := ccell hb _ _ _ bx1_2
    have bx1_3 := ccell hb _ _ _ bx1_3
    have bx2_0 := ccell hb _ _ _ bx2_0
    have bx3_0 := ccell hb _ _ _ bx3_0
    have bx3_1 := ccell hb _ _ _ bx3_1
    have bx3_2 := ccell hb _ _ _ bx3_2
    have bx3_3 := ccell hb _ _ _ bx3_3
    have bx4_0 := ccell hb _ _ _ bx4_0
    have bx5_0 := ccell hb _ _ _ bx5_0
    have bx6_0 := ccell hb _ _ _ bx6_0
    have bx6_1 := ccell hb _ _ _ bx6_1
    have bx6_2 := ccell hb _ _ _ bx6_2
    have bx6_3 := ccell hb _ _ _ bx6_3
    have bl0 := Nat.lt_of_lt_of_le bl0 hb.size
    have bl1 := Nat.lt_of_lt_of_le bl1 hb.size
    have bl2 := Nat.lt_of_lt_of_le bl2 hb.size
    have bl3 := Nat.lt_of_lt_of_le bl3 hb.size
    have bl4 := Nat.lt_of_lt_of_le bl4 hb.size
    have bl5 := Nat.lt_of_lt_of_le bl5 hb.size
    have bl6 := Nat.lt_of_lt_of_le bl6 hb.size
    have r_a := r_a.below (hb.mono (by omega))
    have r_b := r_b.below (hb.mono (by omega))
    have r_v := r_v.below (hb.mono (by omega))
    have o_v := own_ext o_v hb
    have r_g := r_g.below (hb.mono (by omega))
    have o_g := own_ext o_g hb
    have nb_h_7 := own_ty o_h hk7 (by decide)
    have nb_h_8 := own_ty o_h hk8 (by decide)
    have r_h := Reads.of_own o_h
    have u_h := fun k hk => (o_h.lt k hk).2
    clear hL hSt hb hz fx25 fx23 fx24 hk7 hk8
    go_wp2_with fail
    refine (eqMemory_c _ _ _ _ _ lw _ hn_v (by omega) (r_h.more (by omega)) (r_v.more (by omega))).mono ?_
    rintro e w21 ⟨rfl, hb⟩
    have k21 : Below w.heap.size w w21 := ext_step k20 (by omega) hb
    have p21 := hb.size
    have bx0_0 := ccell hb _ _ _ bx0_0
    have bx1_0 := ccell hb _ _ _ bx1_0
    have bx1_1 := ccell hb _ _ _ bx1_1
    have bx1_2 := ccell hb _ _ _ bx1_2
    have bx1_3 := ccell hb _ _ _ bx1_3
    have bx2_0 := ccell hb _ _ _ bx2_0
    have bx3_0 := ccell hb _ _ _ bx3_0
    have bx3_1 := ccell hb _ _ _ bx3_1
    have bx3_2 := ccell hb _ _ _ bx3_2
    have bx3_3 := ccell hb _ _ _ bx3_3
    have bx4_0 := ccell hb _ _ _ bx4_0
    have bx5_0 := ccell hb _ _ _ bx5_0
    have bx6_0 := ccell hb _ _ _ bx6_0
    have bx6_1 := ccell hb _ _ _ bx6_1
    have bx6_2 := ccell hb _ _ _ bx6_2
    have bx6_3 := ccell hb _ _ _ bx6_3
    have bx7_0 := ccell hb _ _ _ bx7_0
    have bx8_0 := ccell hb _ _ _ bx8_0
    have bx8_1 := ccell hb _ _ _ bx8_1
    have bx8_2 := ccell hb _ _ _ bx8_2
    have bx8_3 := ccell hb _ _ _ bx8_3
    have bl0 := Nat.lt_of_lt_of_le bl0 hb.size
    have bl1 := Nat.lt_of_lt_of_le bl1 hb.size
    have bl2 := Nat.lt_of_lt_of_le bl2 hb.size
    have bl3 := Nat.lt_of_lt_of_le bl3 hb.size
    have bl4 := Nat.lt_of_lt_of_le bl4 hb.size
    have bl5 := Nat.lt_of_lt_of_le bl5 hb.size
    have bl6 := Nat.lt_of_lt_of_le bl6 hb.size
    have bl7 := Nat.lt_of_lt_of_le bl7 hb.size
    have bl8 := Nat.lt_of_lt_of_le bl8 hb.size
    have r_a := r_a.below (hb.mono (by omega))
    have r_b := r_b.below (hb.mono (by omega))
    have r_v := r_v.below (hb.mono (by omega))
    have o_v := own_ext o_v hb
    have r_g := r_g.below (hb.mono (by omega))
    have o_g := own_ext o_g hb
    have r_h := r_h.below (hb.mono (by omega))
    have o_h := own_ext o_h hb
    clear hb
    go_wp2_with fail
    refine (eqRing_c _ _ _ _ _).mono ?_
    rintro e w22 ⟨rfl, hb⟩
    have k22 : Below w.heap.size w w22 := ext_step k21 (by omega) hb
    have p22 := hb.size
    have bx0_0 := ccell hb _ _ _ bx0_0
    have bx1_0 := ccell hb _ _ _ bx1_0
    have bx1_1 := ccell hb _ _ _ bx1_1
    have bx1_2 := ccell hb _ _ _ bx1_2
    have bx1_3 := ccell hb _ _ _ bx1_3
    have bx2_0 := ccell hb _ _ _ bx2_0
    have bx3_0 := ccell hb _ _ _ bx3_0
    have bx3_1 := ccell hb _ _ _ bx3_1
    have bx3_2 := ccell hb _ _ _ bx3_2
    have bx3_3 := ccell hb _ _ _ bx3_3
    have bx4_0 := ccell hb _ _ _ bx4_0
    have bx5_0 := ccell hb _ _ _ bx5_0
    have bx6_0 := ccell hb _ _ _ bx6_0
    have bx6_1 := ccell hb _ _ _ bx6_1
    have bx6_2 := ccell hb _ _ _ bx6_2
    have bx6_3 := ccell hb _ _ _ bx6_3
    have bx7_0 := ccell hb _ _ _ bx7_0
    have bx8_0 := ccell hb _ _ _ bx8_0
    have bx8_1 := ccell hb _ _ _ bx8_1
    have bx8_2 := ccell hb _ _ _ bx8_2
    have bx8_3 := ccell hb _ _ _ bx8_3
    have bl0 := Nat.lt_of_lt_of_le bl0 hb.size
    have bl1 := Nat.lt_of_lt_of_le bl1 hb.size
    have bl2 := Nat.lt_of_lt_of_le bl2 hb.size
    have bl3 := Nat.lt_of_lt_of_le bl3 hb.size
    have bl4 := Nat.lt_of_lt_of_le bl4 hb.size
    have bl5 := Nat.lt_of_lt_of_le bl5 hb.size
    have bl6 := Nat.lt_of_lt_of_le bl6 hb.size
    have bl7 := Nat.lt_of_lt_of_le bl7 hb.size
    have bl8 := Nat.lt_of_lt_of_le bl8 hb.size
    have r_a := r_a.below (hb.mono (by omega))
    have r_b := r_b.below (hb.mono (by omega))
    have r_v := r_v.below (hb.mono (by omega))
    have o_v := own_ext o_v hb
    have r_g := r_g.below (hb.mono (by omega))
    have o_g := own_ext o_g hb
    have r_h := r_h.below (hb.mono (by omega))
    have o_h := own_ext o_h hb
    clear hb
    go_wp2_with fail
    refine (heldMemory_c _ _ _ _ _ (r_g.more (by omega)) (by omega) (by omega) (by omega)).mono ?_
    rintro e w23 ⟨rfl, hb⟩
    have k23 : Below w.heap.size w w23 := ext_step k22 (by omega) hb
    have p23 := hb.size
    have bx0_0 := ccell hb _ _ _ bx0_0
    have bx1_0 := ccell hb _ _ _ bx1_0
    have bx1_1 := ccell hb _ _ _ bx1_1
    have bx1_2 := ccell hb _ _ _ bx1_2
    have bx1_3 := ccell hb _ _ _ bx1_3
    have bx2_0 := ccell hb _ _ _ bx2_0
    have bx3_0 := ccell hb _ _ _ bx3_0
    have bx3_1 := ccell hb _ _ _ bx3_1
    have bx3_2 := ccell hb _ _ _ bx3_2
    have bx3_3 := ccell hb _ _ _ bx3_3
    have bx4_0 := ccell hb _ _ _ bx4_0
    have bx5_0 := ccell hb _ _ _ bx5_0
    have bx6_0 := ccell hb _ _ _ bx6_0
    have bx6_1 := ccell hb _ _ _ bx6_1
    have bx6_2 := ccell hb _ _ _ bx6_2
    have bx6_3 := ccell hb _ _ _ bx6_3
    have bx7_0 := ccell hb _ _ _ bx7_0
    have bx8_0 := ccell hb _ _ _ bx8_0
    have bx8_1 := ccell hb _ _ _ bx8_1
    have bx8_2 := ccell hb _ _ _ bx8_2
    have bx8_3 := ccell hb _ _ _ bx8_3
    have bl0 := Nat.lt_of_lt_of_le bl0 hb.size
    have bl1 := Nat.lt_of_lt_of_le bl1 hb.size
    have bl2 := Nat.lt_of_lt_of_le bl2 hb.size
    have bl3 := Nat.lt_of_lt_of_le bl3 hb.size
    have bl4 := Nat.lt_of_lt_of_le bl4 hb.size
    have bl5 := Nat.lt_of_lt_of_le bl5 hb.size
    have bl6 := Nat.lt_of_lt_of_le bl6 hb.size
    have bl7 := Nat.lt_of_lt_of_le bl7 hb.size
    have bl8 := Nat.lt_of_lt_of_le bl8 hb.size
    have r_a := r_a.below (hb.mono (by omega))
    have r_b := r_b.below (hb.mono (by omega))
    have r_g := r_g.below (hb.mono (by omega))
    have o_g := own_ext o_g hb
    clear hb
    go_wp2
    go_ret
    exact ⟨rfl, k23⟩
end Go.Proofs.Ytjeenjblenpinaa
