/- The walk of laws.FnExactRingTake. -/
import Derived.Test.YtjeenjblenpinaaConvMap
import Derived.Test.YtjeenjblenpinaaConvMem
import Derived.Test.YtjeenjblenpinaaConvRing
import Derived.Test.YtjeenjblenpinaaRingTk
import Derived.Test.YtjeenjblenpinaaSlots4
import Derived.Deep.RegionHeld3
import Derived.Deep.DeepCutAuto
namespace Go.Proofs.Ytjeenjblenpinaa
set_option linter.unusedSimpArgs false
set_option linter.unusedVariables false
open Go.RowKit Go.ChangeShapes Go.WideShapes
theorem below_redrew (w : World) : Below w.drew.heap.size w.drew w := ⟨rfl, rfl, rfl, Nat.le_refl _, fun _ _ => rfl⟩
theorem below_vd {w Y : World} (h : Below w.heap.size w Y) : Below w.drew.heap.size w.drew Y := (below_redrew w).trans h
set_option maxRecDepth 100000 in
set_option maxHeartbeats 8000000 in
theorem fnExactRingTake_walk (A : Option Addr) (n c : Nat) (l : List Mapping) (A' : Option Addr) (n' c' : Nat) (l' : List ByteArray) (d base size head tail : Int) (w : World) (hs : SlMapping w A n c l) (hs' : SlStr w A' n' c' l') (q0 : I64 d) (q1 : I64 base) (q2 : I64 size) (q3 : I64 head) (q4 : I64 tail) :
    Calls Try.prog 9 #[.slice A n c, .agg #[.slice A' n' c'], .int .i64 d, .agg #[.int .i64 base, .int .i64 size, .int .i64 head, .int .i64 tail]] w fun e w' => e = .returned (.bool true) ∧ Below w.heap.size w w' := by
  obtain ⟨⟨hn_a, hnc_a, hc_a, r_a⟩, hb_a⟩ := hs
  obtain ⟨⟨hn_b, hnc_b, hc_b, r_b⟩, hb_b⟩ := hs'
  have hspec := fun A c A' c' w => fun (hm : n ≤ 1048576) (hm' : n' ≤ 1048576) hr hr' => specRingTake_c A A' n c n' c' l l' w hn_a hn_b hm hm' hr hr' d base size head tail q3 q4
  have himpl := fun A c A' c' w => fun (hm : n ≤ 1048576) (hm' : n' ≤ 1048576) hr hr' => implRingTake_c A A' n c n' c' l l' w hn_a hn_b hm hm' hr hr' d base size head tail q3 q4
  generalize takeS l l' d base size head tail = so at *
  generalize takeB l l' d base size head tail = bo at *
  generalize takeH l l' d base size head tail = ho at *
  have ht_b := totS_nonneg l'
  by_cases hz_a : (1048576 : Int) - n < 0
  · skip
    have hi_a := Lib.hid (szI_neg hz_a)
    go_enter Try.func9, Try.ntmps9
    go_wp2_with fail
    have k0 : Below w.heap.size w ((w.alloc (.cells #[.slice A' n' c'] 25)).alloc (.cells #[.int .i64 base, .int .i64 size, .int .i64 head, .int .i64 tail] 55)) := by go_grown
    have bx0_0 : ((w.alloc (.cells #[.slice A' n' c'] 25)).alloc (.cells #[.int .i64 base, .int .i64 size, .int .i64 head, .int .i64 tail] 55)).cell? ⟨w.heap.size, 0, none⟩ = some (.slice A' n' c') := by simp [go_sem]
    have bl0 : w.heap.size < ((w.alloc (.cells #[.slice A' n' c'] 25)).alloc (.cells #[.int .i64 base, .int .i64 size, .int .i64 head, .int .i64 tail] 55)).heap.size := by go_size
    have bx1_0 : ((w.alloc (.cells #[.slice A' n' c'] 25)).alloc (.cells #[.int .i64 base, .int .i64 size, .int .i64 head, .int .i64 tail] 55)).cell? ⟨w.heap.size + 1, 0, none⟩ = some (.int .i64 base) := by simp [go_sem]
    have bx1_1 : ((w.alloc (.cells #[.slice A' n' c'] 25)).alloc (.cells #[.int .i64 base, .int .i64 size, .int .i64 head, .int .i64 tail] 55)).cell? ⟨w.heap.size + 1, 1, none⟩ = some (.int .i64 size) := by simp [go_sem]
    have bx1_2 : ((w.alloc (.cells #[.slice A' n' c'] 25)).alloc (.cells #[.int .i64 base, .int .i64 size, .int .i64 head, .int .i64 tail] 55)).cell? ⟨w.heap.size + 1, 2, none⟩ = some (.int .i64 head) := by simp [go_sem]
    have bx1_3 : ((w.alloc (.cells #[.slice A' n' c'] 25)).alloc (.cells #[.int .i64 base, .int .i64 size, .int .i64 head, .int .i64 tail] 55)).cell? ⟨w.heap.size + 1, 3, none⟩ = some (.int .i64 tail) := by simp [go_sem]
    have bl1 : w.heap.size + 1 < ((w.alloc (.cells #[.slice A' n' c'] 25)).alloc (.cells #[.int .i64 base, .int .i64 size, .int .i64 head, .int .i64 tail] 55)).heap.size := by go_size
    have r_a := r_a.below k0
    have r_b := r_b.below k0
    have p0 := k0.size
    generalize hW0 : ((w.alloc (.cells #[.slice A' n' c'] 25)).alloc (.cells #[.int .i64 base, .int .i64 size, .int .i64 head, .int .i64 tail] 55)) = w0 at *
    clear hW0
    refine (szMappingS_c2 _ _ _ (1048576 : Int) _ (by omega) (by omega) (by omega)).mono ?_
    rintro e w_ ⟨rfl, rfl⟩
    rw [hi_a.out]
    go_wp2
    go_ret
    exact ⟨rfl, k0⟩
  have hi_a := Lib.hid (szI_nn hz_a)
  by_cases hz_b : ((1048576 : Int) - n) - n' - totS l' < 0
  · skip
    have hi_b := Lib.hid (szI_neg hz_b)
    go_enter Try.func9, Try.ntmps9
    go_wp2_with fail
    have k0 : Below w.heap.size w ((w.alloc (.cells #[.slice A' n' c'] 25)).alloc (.cells #[.int .i64 base, .int .i64 size, .int .i64 head, .int .i64 tail] 55)) := by go_grown
    have bx0_0 : ((w.alloc (.cells #[.slice A' n' c'] 25)).alloc (.cells #[.int .i64 base, .int .i64 size, .int .i64 head, .int .i64 tail] 55)).cell? ⟨w.heap.size, 0, none⟩ = some (.slice A' n' c') := by simp [go_sem]
    have bl0 : w.heap.size < ((w.alloc (.cells #[.slice A' n' c'] 25)).alloc (.cells #[.int .i64 base, .int .i64 size, .int .i64 head, .int .i64 tail] 55)).heap.size := by go_size
    have bx1_0 : ((w.alloc (.cells #[.slice A' n' c'] 25)).alloc (.cells #[.int .i64 base, .int .i64 size, .int .i64 head, .int .i64 tail] 55)).cell? ⟨w.heap.size + 1, 0, none⟩ = some (.int .i64 base) := by simp [go_sem]
    have bx1_1 : ((w.alloc (.cells #[.slice A' n' c'] 25)).alloc (.cells #[.int .i64 base, .int .i64 size, .int .i64 head, .int .i64 tail] 55)).cell? ⟨w.heap.size + 1, 1, none⟩ = some (.int .i64 size) := by simp [go_sem]
    have bx1_2 : ((w.alloc (.cells #[.slice A' n' c'] 25)).alloc (.cells #[.int .i64 base, .int .i64 size, .int .i64 head, .int .i64 tail] 55)).cell? ⟨w.heap.size + 1, 2, none⟩ = some (.int .i64 head) := by simp [go_sem]
    have bx1_3 : ((w.alloc (.cells #[.slice A' n' c'] 25)).alloc (.cells #[.int .i64 base, .int .i64 size, .int .i64 head, .int .i64 tail] 55)).cell? ⟨w.heap.size + 1, 3, none⟩ = some (.int .i64 tail) := by simp [go_sem]
    have bl1 : w.heap.size + 1 < ((w.alloc (.cells #[.slice A' n' c'] 25)).alloc (.cells #[.int .i64 base, .int .i64 size, .int .i64 head, .int .i64 tail] 55)).heap.size := by go_size
    have r_a := r_a.below k0
    have r_b := r_b.below k0
    have p0 := k0.size
    generalize hW0 : ((w.alloc (.cells #[.slice A' n' c'] 25)).alloc (.cells #[.int .i64 base, .int .i64 size, .int .i64 head, .int .i64 tail] 55)) = w0 at *
    clear hW0
    refine (szMappingS_c2 _ _ _ (1048576 : Int) _ (by omega) (by omega) (by omega)).mono ?_
    rintro e w_ ⟨rfl, rfl⟩
    rw [hi_a.out]
    go_wp2_with fail
    refine (szMemory_c _ _ _ l' ((1048576 : Int) - n) _ (by omega) (by omega) hn_b (by omega) (r_b.more (by omega)) hb_b).mono ?_
    rintro e w1 ⟨rfl, hb⟩
    have k1 : Below w.heap.size w w1 := ext_step k0 (by omega) hb
    have p1 := hb.size
    have bx0_0 := ccell hb _ _ _ bx0_0
    have bx1_0 := ccell hb _ _ _ bx1_0
    have bx1_1 := ccell hb _ _ _ bx1_1
    have bx1_2 := ccell hb _ _ _ bx1_2
    have bx1_3 := ccell hb _ _ _ bx1_3
    have bl0 := Nat.lt_of_lt_of_le bl0 hb.size
    have bl1 := Nat.lt_of_lt_of_le bl1 hb.size
    have r_a := r_a.below (hb.mono (by omega))
    have r_b := r_b.below (hb.mono (by omega))
    rw [hi_b.out]
    clear hb
    go_wp2
    go_ret
    exact ⟨rfl, k1⟩
  have hi_b := Lib.hid (szI_nn hz_b)
  go_enter Try.func9, Try.ntmps9
  go_wp2_with fail
  have k0 : Below w.heap.size w ((w.alloc (.cells #[.slice A' n' c'] 25)).alloc (.cells #[.int .i64 base, .int .i64 size, .int .i64 head, .int .i64 tail] 55)) := by go_grown
  have bx0_0 : ((w.alloc (.cells #[.slice A' n' c'] 25)).alloc (.cells #[.int .i64 base, .int .i64 size, .int .i64 head, .int .i64 tail] 55)).cell? ⟨w.heap.size, 0, none⟩ = some (.slice A' n' c') := by simp [go_sem]
  have bl0 : w.heap.size < ((w.alloc (.cells #[.slice A' n' c'] 25)).alloc (.cells #[.int .i64 base, .int .i64 size, .int .i64 head, .int .i64 tail] 55)).heap.size := by go_size
  have bx1_0 : ((w.alloc (.cells #[.slice A' n' c'] 25)).alloc (.cells #[.int .i64 base, .int .i64 size, .int .i64 head, .int .i64 tail] 55)).cell? ⟨w.heap.size + 1, 0, none⟩ = some (.int .i64 base) := by simp [go_sem]
  have bx1_1 : ((w.alloc (.cells #[.slice A' n' c'] 25)).alloc (.cells #[.int .i64 base, .int .i64 size, .int .i64 head, .int .i64 tail] 55)).cell? ⟨w.heap.size + 1, 1, none⟩ = some (.int .i64 size) := by simp [go_sem]
  have bx1_2 : ((w.alloc (.cells #[.slice A' n' c'] 25)).alloc (.cells #[.int .i64 base, .int .i64 size, .int .i64 head, .int .i64 tail] 55)).cell? ⟨w.heap.size + 1, 2, none⟩ = some (.int .i64 head) := by simp [go_sem]
  have bx1_3 : ((w.alloc (.cells #[.slice A' n' c'] 25)).alloc (.cells #[.int .i64 base, .int .i64 size, .int .i64 head, .int .i64 tail] 55)).cell? ⟨w.heap.size + 1, 3, none⟩ = some (.int .i64 tail) := by simp [go_sem]
  have bl1 : w.heap.size + 1 < ((w.alloc (.cells #[.slice A' n' c'] 25)).alloc (.cells #[.int .i64 base, .int .i64 size, .int .i64 head, .int .i64 tail] 55)).heap.size := by go_size
  have r_a := r_a.below k0
  have r_b := r_b.below k0
  have p0 := k0.size
  generalize hW0 : ((w.alloc (.cells #[.slice A' n' c'] 25)).alloc (.cells #[.int .i64 base, .int .i64 size, .int .i64 head, .int .i64 tail] 55)) = w0 at *
  clear hW0
  refine (szMappingS_c2 _ _ _ (1048576 : Int) _ (by omega) (by omega) (by omega)).mono ?_
  rintro e w_ ⟨rfl, rfl⟩
  rw [hi_a.out]
  go_wp2_with fail
  refine (szMemory_c _ _ _ l' ((1048576 : Int) - n) _ (by omega) (by omega) hn_b (by omega) (r_b.more (by omega)) hb_b).mono ?_
  rintro e w1 ⟨rfl, hb⟩
  have k1 : Below w.heap.size w w1 := ext_step k0 (by omega) hb
  have p1 := hb.size
  have bx0_0 := ccell hb _ _ _ bx0_0
  have bx1_0 := ccell hb _ _ _ bx1_0
  have bx1_1 := ccell hb _ _ _ bx1_1
  have bx1_2 := ccell hb _ _ _ bx1_2
  have bx1_3 := ccell hb _ _ _ bx1_3
  have bl0 := Nat.lt_of_lt_of_le bl0 hb.size
  have bl1 := Nat.lt_of_lt_of_le bl1 hb.size
  have r_a := r_a.below (hb.mono (by omega))
  have r_b := r_b.below (hb.mono (by omega))
  rw [hi_b.out]
  clear hb
  have hs_a : n ≤ 1048576 := by omega
  have hs_b : n' ≤ 1048576 := by omega
  go_wp2_with fail
  refine wp_region_slotsS w1.heap.size [(29, fun _ v => v = .slice A n c), (30, RowP w1.heap.size 77 4 n (l.flatMap Mapping.cells) (fun A c => .slice A n c)), (31, fun _ v => v = .agg #[.slice A' n' c']), (32, RowP w1.heap.size 9 1 n' (l'.flatMap fun x : ByteArray => [Value.string x]) (fun A c => .agg #[.slice A n' c])), (33, fun _ v => v = .int .i64 d), (34, fun _ v => v = .agg #[.int .i64 base, .int .i64 size, .int .i64 head, .int .i64 tail]), (35, fun _ v => v = .agg #[.int .i64 base, .int .i64 size, .int .i64 head, .int .i64 tail]), (36, fun _ v => v = .tuple #[.string so, .agg #[.int .i64 base, .int .i64 size, .int .i64 ho, .int .i64 tail], .bool bo]), (28, fun _ v => v = .tuple #[.string so, .agg #[.int .i64 base, .int .i64 size, .int .i64 ho, .int .i64 tail], .bool bo]), (37, fun _ v => v = .string so), (38, fun _ v => v = .agg #[.int .i64 base, .int .i64 size, .int .i64 ho, .int .i64 tail]), (39, fun _ v => v = .bool bo), (11, BoxP w1.heap.size 56 4), (10, fun _ v => v = .string so), (12, fun _ v => v = .bool bo)] [⟨14, 11, fun _ => True, StoP w1.heap.size 56 [.int .i64 base, .int .i64 size, .int .i64 ho, .int .i64 tail]⟩] (by kernel_rfl) (Nat.le_refl _) (by kernel_rfl) (by kernel_rfl) (by kernel_rfl) (by kernel_rfl) ?_ ?_ ?_ ?_ ?_
  · intro p hp
    simp only [List.mem_cons, List.not_mem_nil, or_false] at hp
    rcases hp with rfl | rfl | rfl | rfl | rfl | rfl | rfl | rfl | rfl | rfl | rfl | rfl | rfl | rfl | rfl
    all_goals (intro u u' v hb hv; first | exact hv | exact BoxP.keep hv hb | exact RowP.keep hv hb)
  · intro s hs u u' hb
    simp only [List.mem_cons, List.not_mem_nil, or_false] at hs
    rcases hs with rfl
    all_goals first | exact ⟨id, fun _ h => StoP.keep h hb⟩ | exact ⟨id, fun _ h => StoR.keep h hb⟩
  · intro s hs
    simp only [List.mem_cons, List.not_mem_nil, or_false] at hs
    rcases hs with rfl <;> trivial
  · intro hGk hSk
    refine allStep_cons (stepS_plain hGk hSk (Nat.le_refl _) (by kernel_rfl) rfl ?_) ?_
    · intro a u hb hz hl hp K Q hK
      have e0 : a.tmps[0]?.getD undef = .slice A n c := gd (hl 0 (by kernel_rfl))
      go_simp
      exact hK _ _ (Below.refl _ _) (by intro d hd; cases hd; exact rfl)
    refine allStep_cons (stepS_plain hGk hSk (Nat.le_refl _) (by kernel_rfl) rfl ?_) ?_
    · intro a u hb hz hl hp K Q hK
      have e29 : a.tmps[29]?.getD undef = .slice A n c := gd (hl 29 (by kernel_rfl))
      go_simp
      refine (toMappingS_c _ _ _ l _ hn_a hs_a ((r_a.below (hb.mono (by omega))).more (by omega))).mono ?_
      rintro e u1 ⟨g, rfl, hg, bb, hb1⟩
      exact hK _ _ hb1 (by intro d hd; cases hd; exact ⟨_, _, rfl, bb.own (base := w1.heap.size) (size := 4) (n := n) (by omega) (by rw [flatMap_len _ 4 (fun _ => rfl), hn_a]) (by unfold maxLen; omega) rfl⟩)
    refine allStep_cons (stepS_plain hGk hSk (Nat.le_refl _) (by kernel_rfl) rfl ?_) ?_
    · intro a u hb hz hl hp K Q hK
      have e5 : a.tmps[5]?.getD undef = .pointer (some ⟨w.heap.size, 0, none⟩) := gd (hl 5 (by kernel_rfl))
      have bx0_0 := ccell hb _ _ _ bx0_0
      go_simp
      exact hK _ _ (Below.refl _ _) (by intro d hd; cases hd; exact rfl)
    refine allStep_cons (stepS_plain hGk hSk (Nat.le_refl _) (by kernel_rfl) rfl ?_) ?_
    · intro a u hb hz hl hp K Q hK
      have e31 : a.tmps[31]?.getD undef = .agg #[.slice A' n' c'] := gd (hl 31 (by kernel_rfl))
      go_simp
      refine (toMemory_c _ _ _ l' _ hn_b hs_b ((r_b.below (hb.mono (by omega))).more (by omega))).mono ?_
      rintro e u1 ⟨g, rfl, hg, bb, hb1⟩
      exact hK _ _ hb1 (by intro d hd; cases hd; exact ⟨_, _, rfl, bb.own (base := w1.heap.size) (size := 1) (n := n') (by omega) (by rw [flatMap_len _ 1 (fun _ => rfl), hn_b]) (by unfold maxLen; omega) rfl⟩)
    refine allStep_cons (stepS_plain hGk hSk (Nat.le_refl _) (by kernel_rfl) rfl ?_) ?_
    · intro a u hb hz hl hp K Q hK
      have e2 : a.tmps[2]?.getD undef = .int .i64 d := gd (hl 2 (by kernel_rfl))
      go_simp
      exact hK _ _ (Below.refl _ _) (by intro d hd; cases hd; exact rfl)
    refine allStep_cons (stepS_plain hGk hSk (Nat.le_refl _) (by kernel_rfl) rfl ?_) ?_
    · intro a u hb hz hl hp K Q hK
      have e7 : a.tmps[7]?.getD undef = .pointer (some ⟨w.heap.size + 1, 0, none⟩) := gd (hl 7 (by kernel_rfl))
      have bx1_0 := ccell hb _ _ _ bx1_0
      have bx1_1 := ccell hb _ _ _ bx1_1
      have bx1_2 := ccell hb _ _ _ bx1_2
      have bx1_3 := ccell hb _ _ _ bx1_3
      go_simp
      exact hK _ _ (Below.refl _ _) (by intro d hd; cases hd; exact rfl)
    refine allStep_cons (stepS_plain hGk hSk (Nat.le_refl _) (by kernel_rfl) rfl ?_) ?_
    · intro a u hb hz hl hp K Q hK
      have e34 : a.tmps[34]?.getD undef = .agg #[.int .i64 base, .int .i64 size, .int .i64 head, .int .i64 tail] := gd (hl 34 (by kernel_rfl))
      go_simp
      refine (toRing_c _ _ _ _ _).mono ?_
      rintro e u1 ⟨rfl, hb1⟩
      exact hK _ _ hb1 (by intro d hd; cases hd; exact rfl)
    refine allStep_cons (stepS_plain hGk hSk (Nat.le_refl _) (by kernel_rfl) rfl ?_) ?_
    · intro a u hb hz hl hp K Q hK
      obtain ⟨A1, c1, ex30, o1⟩ : RowP w1.heap.size 77 4 n (l.flatMap Mapping.cells) (fun A c => .slice A n c) u (a.tmps.getD 30 undef) := hl 30 (by kernel_rfl)
      have e30 := gd ex30
      obtain ⟨A2, c2, ex32, o2⟩ : RowP w1.heap.size 9 1 n' (l'.flatMap fun x : ByteArray => [Value.string x]) (fun A c => .agg #[.slice A n' c]) u (a.tmps.getD 32 undef) := hl 32 (by kernel_rfl)
      have e32 := gd ex32
      have e33 : a.tmps[33]?.getD undef = .int .i64 d := gd (hl 33 (by kernel_rfl))
      have e35 : a.tmps[35]?.getD undef = .agg #[.int .i64 base, .int .i64 size, .int .i64 head, .int .i64 tail] := gd (hl 35 (by kernel_rfl))
      go_simp
      refine (hspec _ _ _ _ _ hs_a hs_b (Reads.of_own o1) (Reads.of_own o2)).mono ?_
      rintro e u1 ⟨rfl, hb1⟩
      exact hK _ _ hb1 (by intro d hd; cases hd; exact rfl)
    refine allStep_cons (stepS_plain hGk hSk (Nat.le_refl _) (by kernel_rfl) rfl ?_) ?_
    · intro a u hb hz hl hp K Q hK
      have e36 : a.tmps[36]?.getD undef = .tuple #[.string so, .agg #[.int .i64 base, .int .i64 size, .int .i64 ho, .int .i64 tail], .bool bo] := gd (hl 36 (by kernel_rfl))
      go_simp
      exact hK _ _ (Below.refl _ _) (by intro d hd; cases hd; exact rfl)
    refine allStep_cons (stepS_plain hGk hSk (Nat.le_refl _) (by kernel_rfl) rfl ?_) ?_
    · intro a u hb hz hl hp K Q hK
      have e28 : a.tmps[28]?.getD undef = .tuple #[.string so, .agg #[.int .i64 base, .int .i64 size, .int .i64 ho, .int .i64 tail], .bool bo] := gd (hl 28 (by kernel_rfl))
      go_simp
      exact hK _ _ (Below.refl _ _) (by intro d hd; cases hd; exact rfl)
    refine allStep_cons (stepS_plain hGk hSk (Nat.le_refl _) (by kernel_rfl) rfl ?_) ?_
    · intro a u hb hz hl hp K Q hK
      have e28 : a.tmps[28]?.getD undef = .tuple #[.string so, .agg #[.int .i64 base, .int .i64 size, .int .i64 ho, .int .i64 tail], .bool bo] := gd (hl 28 (by kernel_rfl))
      go_simp
      exact hK _ _ (Below.refl _ _) (by intro d hd; cases hd; exact rfl)
    refine allStep_cons (stepS_plain hGk hSk (Nat.le_refl _) (by kernel_rfl) rfl ?_) ?_
    · intro a u hb hz hl hp K Q hK
      have e28 : a.tmps[28]?.getD undef = .tuple #[.string so, .agg #[.int .i64 base, .int .i64 size, .int .i64 ho, .int .i64 tail], .bool bo] := gd (hl 28 (by kernel_rfl))
      go_simp
      exact hK _ _ (Below.refl _ _) (by intro d hd; cases hd; exact rfl)
    refine allStep_cons (stepS_plain hGk hSk (Nat.le_refl _) (by kernel_rfl) rfl ?_) ?_
    · intro a u hb hz hl hp K Q hK
      go_simp
      exact hK _ _ (by go_grown) (by intro d hd; cases hd; exact BoxP.new _ _ [.int .i64 0, .int .i64 0, .int .i64 0, .int .i64 0] (by omega) rfl)
    refine allStep_cons (stepS_plain hGk hSk (Nat.le_refl _) (by kernel_rfl) rfl ?_) ?_
    · intro a u hb hz hl hp K Q hK
      have e37 : a.tmps[37]?.getD undef = .string so := gd (hl 37 (by kernel_rfl))
      go_simp
      exact hK _ _ (Below.refl _ _) (by intro d hd; cases hd; exact rfl)
    refine allStep_cons (stepS_store 56 (hold_chg ?_) ?_ rfl rfl ?_) ?_
    · intro p hp
      simp only [List.mem_cons, List.not_mem_nil, or_false] at hp
      rcases hp with rfl | rfl | rfl | rfl | rfl | rfl | rfl | rfl | rfl | rfl | rfl | rfl | rfl | rfl | rfl
      all_goals (intro u u' v hb hv; first | exact hv | exact BoxP.chg hv hb | exact RowP.chg hv hb (by decide))
    · intro s hs hne u u' hb
      simp only [List.mem_cons, List.not_mem_nil, or_false] at hs
      rcases hs with rfl
      all_goals first | exact absurd rfl hne | exact ⟨id, fun _ h => StoP.chg h hb (by decide)⟩ | exact ⟨id, fun _ h => StoR.chg h hb (by decide) (by decide)⟩
    · intro a u hb hz hl hp K Q hK
      obtain ⟨b, exb, hB, zs, hzl, hbk⟩ : BoxP w1.heap.size 56 4 u (a.tmps.getD 11 undef) := hl 11 (by kernel_rfl)
      have e11 := gd exb
      have e38 : a.tmps[38]?.getD undef = .agg #[.int .i64 base, .int .i64 size, .int .i64 ho, .int .i64 tail] := gd (hl 38 (by kernel_rfl))
      obtain ⟨z0, z1, z2, z3, rfl⟩ : ∃ z0 z1 z2 z3, zs = [z0, z1, z2, z3] := (by match zs, hzl with | [z0, z1, z2, z3], _ => exact ⟨_, _, _, _, rfl⟩)
      have hlt := hbk.lt
      have g0 : u.cell? ⟨b, 0, none⟩ = some z0 := (hbk.cell 0).trans rfl
      have f0 := hbk.frozen 0
      have g1 : u.cell? ⟨b, 1, none⟩ = some z1 := (hbk.cell 1).trans rfl
      have f1 := hbk.frozen 1
      have g2 : u.cell? ⟨b, 2, none⟩ = some z2 := (hbk.cell 2).trans rfl
      have f2 := hbk.frozen 2
      have g3 : u.cell? ⟨b, 3, none⟩ = some z3 := (hbk.cell 3).trans rfl
      have f3 := hbk.frozen 3
      go_simp
      refine hK undef _ (((((Chg.refl _ _ _).set hbk hB 0 _).set (hbk.set_ 0 _) hB 1 _).set ((hbk.set_ 0 _).set_ 1 _) hB 2 _).set (((hbk.set_ 0 _).set_ 1 _).set_ 2 _) hB 3 _) (fun s hs he => ?_)
      simp only [List.mem_cons, List.not_mem_nil, or_false] at hs
      rcases hs with rfl
      all_goals first | exact absurd he (by decide) | exact ⟨b, exb, hB, ((((hbk.set_ 0 _).set_ 1 _).set_ 2 _).set_ 3 _)⟩
    refine allStep_cons (stepS_plain hGk hSk (Nat.le_refl _) (by kernel_rfl) rfl ?_) ?_
    · intro a u hb hz hl hp K Q hK
      have e39 : a.tmps[39]?.getD undef = .bool bo := gd (hl 39 (by kernel_rfl))
      go_simp
      exact hK _ _ (Below.refl _ _) (by intro d hd; cases hd; exact rfl)
    exact allStep_nil
  intro x w2 hb hz hL hSt
  have fx10 : x 10 = .string so := hL _ (List.mem_of_getElem? (i := 13) rfl)
  have fx12 : x 12 = .bool bo := hL _ (List.mem_of_getElem? (i := 14) rfl)
  obtain ⟨bk_2, fx11, lo2, hk2⟩ : StoP w1.heap.size 56 [.int .i64 base, .int .i64 size, .int .i64 ho, .int .i64 tail] w2 (x 11) := hSt _ (List.mem_of_getElem? (i := 0) rfl)
  simp only [List.map, putAll, fx10, fx12, fx11]
  have bl2 := hk2.lt
  have bx2_0 : w2.cell? ⟨bk_2, 0, none⟩ = some (.int .i64 base) := (hk2.cell 0).trans rfl
  have bx2_1 : w2.cell? ⟨bk_2, 1, none⟩ = some (.int .i64 size) := (hk2.cell 1).trans rfl
  have bx2_2 : w2.cell? ⟨bk_2, 2, none⟩ = some (.int .i64 ho) := (hk2.cell 2).trans rfl
  have bx2_3 : w2.cell? ⟨bk_2, 3, none⟩ = some (.int .i64 tail) := (hk2.cell 3).trans rfl
  have k2 : Below w.heap.size w w2 := ext_step k1 (by omega) hb
  have p2 := hb.size
  have bx0_0 := ccell hb _ _ _ bx0_0
  have bx1_0 := ccell hb _ _ _ bx1_0
  have bx1_1 := ccell hb _ _ _ bx1_1
  have bx1_2 := ccell hb _ _ _ bx1_2
  have bx1_3 := ccell hb _ _ _ bx1_3
  have bl0 := Nat.lt_of_lt_of_le bl0 hb.size
  have bl1 := Nat.lt_of_lt_of_le bl1 hb.size
  have r_a := r_a.below (hb.mono (by omega))
  have r_b := r_b.below (hb.mono (by omega))
  clear hL hSt hb hz fx10 fx12 fx11 hk2
  go_wp2_with fail
  refine (toMappingS_c _ _ _ l _ hn_a hs_a (r_a.more (by omega))).mono ?_
  rintro e w3 ⟨g_x, rfl, hg_x, b_x, hb⟩
  have k3 : Below w.heap.size w w3 := ext_step k2 (by omega) hb
  have p3 := hb.size
  have bx0_0 := ccell hb _ _ _ bx0_0
  have bx1_0 := ccell hb _ _ _ bx1_0
  have bx1_1 := ccell hb _ _ _ bx1_1
  have bx1_2 := ccell hb _ _ _ bx1_2
  have bx1_3 := ccell hb _ _ _ bx1_3
  have bx2_0 := ccell hb _ _ _ bx2_0
  have bx2_1 := ccell hb _ _ _ bx2_1
  have bx2_2 := ccell hb _ _ _ bx2_2
  have bx2_3 := ccell hb _ _ _ bx2_3
  have bl0 := Nat.lt_of_lt_of_le bl0 hb.size
  have bl1 := Nat.lt_of_lt_of_le bl1 hb.size
  have bl2 := Nat.lt_of_lt_of_le bl2 hb.size
  have r_a := r_a.below (hb.mono (by omega))
  have r_b := r_b.below (hb.mono (by omega))
  have r_x := b_x.reads (size := 4) (n := n) (by rw [flatMap_len _ 4 (fun _ => rfl), hn_a])
  have o_x := b_x.own (base := w2.heap.size) (size := 4) (n := n) hg_x (by rw [flatMap_len _ 4 (fun _ => rfl), hn_a]) (by unfold maxLen; omega) rfl
  have u_x := fun k hk => (o_x.lt k hk).2
  clear hb
  go_wp2_with fail
  refine (toMemory_c _ _ _ l' _ hn_b hs_b (r_b.more (by omega))).mono ?_
  rintro e w4 ⟨g_y, rfl, hg_y, b_y, hb⟩
  have k4 : Below w.heap.size w w4 := ext_step k3 (by omega) hb
  have p4 := hb.size
  have bx0_0 := ccell hb _ _ _ bx0_0
  have bx1_0 := ccell hb _ _ _ bx1_0
  have bx1_1 := ccell hb _ _ _ bx1_1
  have bx1_2 := ccell hb _ _ _ bx1_2
  have bx1_3 := ccell hb _ _ _ bx1_3
  have bx2_0 := ccell hb _ _ _ bx2_0
  have bx2_1 := ccell hb _ _ _ bx2_1
  have bx2_2 := ccell hb _ _ _ bx2_2
  have bx2_3 := ccell hb _ _ _ bx2_3
  have bl0 := Nat.lt_of_lt_of_le bl0 hb.size
  have bl1 := Nat.lt_of_lt_of_le bl1 hb.size
  have bl2 := Nat.lt_of_lt_of_le bl2 hb.size
  have r_a := r_a.below (hb.mono (by omega))
  have r_b := r_b.below (hb.mono (by omega))
  have r_x := r_x.below (hb.mono (by omega))
  have o_x := own_ext o_x hb
  have r_y := b_y.reads (size := 1) (n := n') (by rw [flatMap_len _ 1 (fun _ => rfl), hn_b])
  have o_y := b_y.own (base := w3.heap.size) (size := 1) (n := n') hg_y (by rw [flatMap_len _ 1 (fun _ => rfl), hn_b]) (by unfold maxLen; omega) rfl
  have u_y := fun k hk => (o_y.lt k hk).2
  clear hb
  go_wp2_with fail
  have hb : Below w4.heap.size w4 (w4.alloc (.cells #[.slice (some ⟨g_y, 0, none⟩) n' n'] 32)) := by go_grown
  have bx3_0 : (w4.alloc (.cells #[.slice (some ⟨g_y, 0, none⟩) n' n'] 32)).cell? ⟨w4.heap.size, 0, none⟩ = some (.slice (some ⟨g_y, 0, none⟩) n' n') := by simp [go_sem]
  have bl3 : w4.heap.size < (w4.alloc (.cells #[.slice (some ⟨g_y, 0, none⟩) n' n'] 32)).heap.size := by go_size
  generalize hW0 : (w4.alloc (.cells #[.slice (some ⟨g_y, 0, none⟩) n' n'] 32)) = w5 at *
  clear hW0
  have k5 : Below w.heap.size w w5 := ext_step k4 (by omega) hb
  have p5 := hb.size
  have bx0_0 := ccell hb _ _ _ bx0_0
  have bx1_0 := ccell hb _ _ _ bx1_0
  have bx1_1 := ccell hb _ _ _ bx1_1
  have bx1_2 := ccell hb _ _ _ bx1_2
  have bx1_3 := ccell hb _ _ _ bx1_3
  have bx2_0 := ccell hb _ _ _ bx2_0
  have bx2_1 := ccell hb _ _ _ bx2_1
  have bx2_2 := ccell hb _ _ _ bx2_2
  have bx2_3 := ccell hb _ _ _ bx2_3
  have bl0 := Nat.lt_of_lt_of_le bl0 hb.size
  have bl1 := Nat.lt_of_lt_of_le bl1 hb.size
  have bl2 := Nat.lt_of_lt_of_le bl2 hb.size
  have r_a := r_a.below (hb.mono (by omega))
  have r_b := r_b.below (hb.mono (by omega))
  have r_x := r_x.below (hb.mono (by omega))
  have o_x := own_ext o_x hb
  have r_y := r_y.below (hb.mono (by omega))
  have o_y := own_ext o_y hb
  clear hb
  refine wp_region_slotsS w5.heap.size [(45, fun _ v => v = .slice (some ⟨g_x, 0, none⟩) n n), (46, fun _ v => v = .agg #[.slice (some ⟨g_y, 0, none⟩) n' n']), (47, fun _ v => v = .int .i64 d), (48, fun _ v => v = .agg #[.int .i64 base, .int .i64 size, .int .i64 head, .int .i64 tail]), (49, fun _ v => v = .agg #[.int .i64 base, .int .i64 size, .int .i64 head, .int .i64 tail]), (50, fun _ v => v = .tuple #[.string so, .agg #[.int .i64 base, .int .i64 size, .int .i64 ho, .int .i64 tail], .bool bo]), (44, fun _ v => v = .tuple #[.string so, .agg #[.int .i64 base, .int .i64 size, .int .i64 ho, .int .i64 tail], .bool bo]), (51, fun _ v => v = .string so), (52, fun _ v => v = .agg #[.int .i64 base, .int .i64 size, .int .i64 ho, .int .i64 tail]), (53, fun _ v => v = .bool bo), (16, BoxP w5.heap.size 56 4), (15, fun _ v => v = .string so), (17, fun _ v => v = .bool bo)] [⟨12, 16, fun _ => True, StoP w5.heap.size 56 [.int .i64 base, .int .i64 size, .int .i64 ho, .int .i64 tail]⟩] (by kernel_rfl) (Nat.le_refl _) (by kernel_rfl) (by kernel_rfl) (by kernel_rfl) (by kernel_rfl) ?_ ?_ ?_ ?_ ?_
  · intro p hp
    simp only [List.mem_cons, List.not_mem_nil, or_false] at hp
    rcases hp with rfl | rfl | rfl | rfl | rfl | rfl | rfl | rfl | rfl | rfl | rfl | rfl | rfl
    all_goals (intro u u' v hb hv; first | exact hv | exact BoxP.keep hv hb | exact RowP.keep hv hb)
  · intro s hs u u' hb
    simp only [List.mem_cons, List.not_mem_nil, or_false] at hs
    rcases hs with rfl
    all_goals first | exact ⟨id, fun _ h => StoP.keep h hb⟩ | exact ⟨id, fun _ h => StoR.keep h hb⟩
  · intro s hs
    simp only [List.mem_cons, List.not_mem_nil, or_false] at hs
    rcases hs with rfl <;> trivial
  · intro hGk hSk
    refine allStep_cons (stepS_plain hGk hSk (Nat.le_refl _) (by kernel_rfl) rfl ?_) ?_
    · intro a u hb hz hl hp K Q hK
      have e13 : a.tmps[13]?.getD undef = .slice (some ⟨g_x, 0, none⟩) n n := gd (hl 13 (by kernel_rfl))
      go_simp
      exact hK _ _ (Below.refl _ _) (by intro d hd; cases hd; exact rfl)
    refine allStep_cons (stepS_plain hGk hSk (Nat.le_refl _) (by kernel_rfl) rfl ?_) ?_
    · intro a u hb hz hl hp K Q hK
      have e14 : a.tmps[14]?.getD undef = .pointer (some ⟨w4.heap.size, 0, none⟩) := gd (hl 14 (by kernel_rfl))
      have bx3_0 := ccell hb _ _ _ bx3_0
      go_simp
      exact hK _ _ (Below.refl _ _) (by intro d hd; cases hd; exact rfl)
    refine allStep_cons (stepS_plain hGk hSk (Nat.le_refl _) (by kernel_rfl) rfl ?_) ?_
    · intro a u hb hz hl hp K Q hK
      have e2 : a.tmps[2]?.getD undef = .int .i64 d := gd (hl 2 (by kernel_rfl))
      go_simp
      exact hK _ _ (Below.refl _ _) (by intro d hd; cases hd; exact rfl)
    refine allStep_cons (stepS_plain hGk hSk (Nat.le_refl _) (by kernel_rfl) rfl ?_) ?_
    · intro a u hb hz hl hp K Q hK
      have e7 : a.tmps[7]?.getD undef = .pointer (some ⟨w.heap.size + 1, 0, none⟩) := gd (hl 7 (by kernel_rfl))
      have bx1_0 := ccell hb _ _ _ bx1_0
      have bx1_1 := ccell hb _ _ _ bx1_1
      have bx1_2 := ccell hb _ _ _ bx1_2
      have bx1_3 := ccell hb _ _ _ bx1_3
      go_simp
      exact hK _ _ (Below.refl _ _) (by intro d hd; cases hd; exact rfl)
    refine allStep_cons (stepS_plain hGk hSk (Nat.le_refl _) (by kernel_rfl) rfl ?_) ?_
    · intro a u hb hz hl hp K Q hK
      have e48 : a.tmps[48]?.getD undef = .agg #[.int .i64 base, .int .i64 size, .int .i64 head, .int .i64 tail] := gd (hl 48 (by kernel_rfl))
      go_simp
      refine (toRing_c _ _ _ _ _).mono ?_
      rintro e u1 ⟨rfl, hb1⟩
      exact hK _ _ hb1 (by intro d hd; cases hd; exact rfl)
    refine allStep_cons (stepS_plain hGk hSk (Nat.le_refl _) (by kernel_rfl) rfl ?_) ?_
    · intro a u hb hz hl hp K Q hK
      have e45 : a.tmps[45]?.getD undef = .slice (some ⟨g_x, 0, none⟩) n n := gd (hl 45 (by kernel_rfl))
      have e46 : a.tmps[46]?.getD undef = .agg #[.slice (some ⟨g_y, 0, none⟩) n' n'] := gd (hl 46 (by kernel_rfl))
      have e47 : a.tmps[47]?.getD undef = .int .i64 d := gd (hl 47 (by kernel_rfl))
      have e49 : a.tmps[49]?.getD undef = .agg #[.int .i64 base, .int .i64 size, .int .i64 head, .int .i64 tail] := gd (hl 49 (by kernel_rfl))
      go_simp
      refine (himpl _ _ _ _ _ hs_a hs_b ((r_x.below (hb.mono (by omega))).more (by omega)) ((r_y.below (hb.mono (by omega))).more (by omega))).mono ?_
      rintro e u1 ⟨rfl, hb1⟩
      exact hK _ _ hb1 (by intro d hd; cases hd; exact rfl)
    refine allStep_cons (stepS_plain hGk hSk (Nat.le_refl _) (by kernel_rfl) rfl ?_) ?_
    · intro a u hb hz hl hp K Q hK
      have e50 : a.tmps[50]?.getD undef = .tuple #[.string so, .agg #[.int .i64 base, .int .i64 size, .int .i64 ho, .int .i64 tail], .bool bo] := gd (hl 50 (by kernel_rfl))
      go_simp
      exact hK _ _ (Below.refl _ _) (by intro d hd; cases hd; exact rfl)
    refine allStep_cons (stepS_plain hGk hSk (Nat.le_refl _) (by kernel_rfl) rfl ?_) ?_
    · intro a u hb hz hl hp K Q hK
      have e44 : a.tmps[44]?.getD undef = .tuple #[.string so, .agg #[.int .i64 base, .int .i64 size, .int .i64 ho, .int .i64 tail], .bool bo] := gd (hl 44 (by kernel_rfl))
      go_simp
      exact hK _ _ (Below.refl _ _) (by intro d hd; cases hd; exact rfl)
    refine allStep_cons (stepS_plain hGk hSk (Nat.le_refl _) (by kernel_rfl) rfl ?_) ?_
    · intro a u hb hz hl hp K Q hK
      have e44 : a.tmps[44]?.getD undef = .tuple #[.string so, .agg #[.int .i64 base, .int .i64 size, .int .i64 ho, .int .i64 tail], .bool bo] := gd (hl 44 (by kernel_rfl))
      go_simp
      exact hK _ _ (Below.refl _ _) (by intro d hd; cases hd; exact rfl)
    refine allStep_cons (stepS_plain hGk hSk (Nat.le_refl _) (by kernel_rfl) rfl ?_) ?_
    · intro a u hb hz hl hp K Q hK
      have e44 : a.tmps[44]?.getD undef = .tuple #[.string so, .agg #[.int .i64 base, .int .i64 size, .int .i64 ho, .int .i64 tail], .bool bo] := gd (hl 44 (by kernel_rfl))
      go_simp
      exact hK _ _ (Below.refl _ _) (by intro d hd; cases hd; exact rfl)
    refine allStep_cons (stepS_plain hGk hSk (Nat.le_refl _) (by kernel_rfl) rfl ?_) ?_
    · intro a u hb hz hl hp K Q hK
      go_simp
      exact hK _ _ (by go_grown) (by intro d hd; cases hd; exact BoxP.new _ _ [.int .i64 0, .int .i64 0, .int .i64 0, .int .i64 0] (by omega) rfl)
    refine allStep_cons (stepS_plain hGk hSk (Nat.le_refl _) (by kernel_rfl) rfl ?_) ?_
    · intro a u hb hz hl hp K Q hK
      have e51 : a.tmps[51]?.getD undef = .string so := gd (hl 51 (by kernel_rfl))
      go_simp
      exact hK _ _ (Below.refl _ _) (by intro d hd; cases hd; exact rfl)
    refine allStep_cons (stepS_store 56 (hold_chg ?_) ?_ rfl rfl ?_) ?_
    · intro p hp
      simp only [List.mem_cons, List.not_mem_nil, or_false] at hp
      rcases hp with rfl | rfl | rfl | rfl | rfl | rfl | rfl | rfl | rfl | rfl | rfl | rfl | rfl
      all_goals (intro u u' v hb hv; first | exact hv | exact BoxP.chg hv hb | exact RowP.chg hv hb (by decide))
    · intro s hs hne u u' hb
      simp only [List.mem_cons, List.not_mem_nil, or_false] at hs
      rcases hs with rfl
      all_goals first | exact absurd rfl hne | exact ⟨id, fun _ h => StoP.chg h hb (by decide)⟩ | exact ⟨id, fun _ h => StoR.chg h hb (by decide) (by decide)⟩
    · intro a u hb hz hl hp K Q hK
      obtain ⟨b, exb, hB, zs, hzl, hbk⟩ : BoxP w5.heap.size 56 4 u (a.tmps.getD 16 undef) := hl 16 (by kernel_rfl)
      have e16 := gd exb
      have e52 : a.tmps[52]?.getD undef = .agg #[.int .i64 base, .int .i64 size, .int .i64 ho, .int .i64 tail] := gd (hl 52 (by kernel_rfl))
      obtain ⟨z0, z1, z2, z3, rfl⟩ : ∃ z0 z1 z2 z3, zs = [z0, z1, z2, z3] := (by match zs, hzl with | [z0, z1, z2, z3], _ => exact ⟨_, _, _, _, rfl⟩)
      have hlt := hbk.lt
      have g0 : u.cell? ⟨b, 0, none⟩ = some z0 := (hbk.cell 0).trans rfl
      have f0 := hbk.frozen 0
      have g1 : u.cell? ⟨b, 1, none⟩ = some z1 := (hbk.cell 1).trans rfl
      have f1 := hbk.frozen 1
      have g2 : u.cell? ⟨b, 2, none⟩ = some z2 := (hbk.cell 2).trans rfl
      have f2 := hbk.frozen 2
      have g3 : u.cell? ⟨b, 3, none⟩ = some z3 := (hbk.cell 3).trans rfl
      have f3 := hbk.frozen 3
      go_simp
      refine hK undef _ (((((Chg.refl _ _ _).set hbk hB 0 _).set (hbk.set_ 0 _) hB 1 _).set ((hbk.set_ 0 _).set_ 1 _) hB 2 _).set (((hbk.set_ 0 _).set_ 1 _).set_ 2 _) hB 3 _) (fun s hs he => ?_)
      simp only [List.mem_cons, List.not_mem_nil, or_false] at hs
      rcases hs with rfl
      all_goals first | exact absurd he (by decide) | exact ⟨b, exb, hB, ((((hbk.set_ 0 _).set_ 1 _).set_ 2 _).set_ 3 _)⟩
    refine allStep_cons (stepS_plain hGk hSk (Nat.le_refl _) (by kernel_rfl) rfl ?_) ?_
    · intro a u hb hz hl hp K Q hK
      have e53 : a.tmps[53]?.getD undef = .bool bo := gd (hl 53 (by kernel_rfl))
      go_simp
      exact hK _ _ (Below.refl _ _) (by intro d hd; cases hd; exact rfl)
    exact allStep_nil
  intro x w6 hb hz hL hSt
  have fx15 : x 15 = .string so := hL _ (List.mem_of_getElem? (i := 11) rfl)
  have fx17 : x 17 = .bool bo := hL _ (List.mem_of_getElem? (i := 12) rfl)
  obtain ⟨bk_4, fx16, lo4, hk4⟩ : StoP w5.heap.size 56 [.int .i64 base, .int .i64 size, .int .i64 ho, .int .i64 tail] w6 (x 16) := hSt _ (List.mem_of_getElem? (i := 0) rfl)
  simp only [List.map, putAll, fx15, fx17, fx16]
  have bl4 := hk4.lt
  have bx4_0 : w6.cell? ⟨bk_4, 0, none⟩ = some (.int .i64 base) := (hk4.cell 0).trans rfl
  have bx4_1 : w6.cell? ⟨bk_4, 1, none⟩ = some (.int .i64 size) := (hk4.cell 1).trans rfl
  have bx4_2 : w6.cell? ⟨bk_4, 2, none⟩ = some (.int .i64 ho) := (hk4.cell 2).trans rfl
  have bx4_3 : w6.cell? ⟨bk_4, 3, none⟩ = some (.int .i64 tail) := (hk4.cell 3).trans rfl
  have k6 : Below w.heap.size w w6 := ext_step k5 (by omega) hb
  have p6 := hb.size
  have bx0_0 := ccell hb _ _ _ bx0_0
  have bx1_0 := ccell hb _ _ _ bx1_0
  have bx1_1 := ccell hb _ _ _ bx1_1
  have bx1_2 := ccell hb _ _ _ bx1_2
  have bx1_3 := ccell hb _ _ _ bx1_3
  have bx2_0 := ccell hb _ _ _ bx2_0
  have bx2_1 := ccell hb _ _ _ bx2_1
  have bx2_2 := ccell hb _ _ _ bx2_2
  have bx2_3 := ccell hb _ _ _ bx2_3
  have bx3_0 := ccell hb _ _ _ bx3_0
  have bl0 := Nat.lt_of_lt_of_le bl0 hb.size
  have bl1 := Nat.lt_of_lt_of_le bl1 hb.size
  have bl2 := Nat.lt_of_lt_of_le bl2 hb.size
  have bl3 := Nat.lt_of_lt_of_le bl3 hb.size
  have r_a := r_a.below (hb.mono (by omega))
  have r_b := r_b.below (hb.mono (by omega))
  have r_x := r_x.below (hb.mono (by omega))
  have o_x := own_ext o_x hb
  have r_y := r_y.below (hb.mono (by omega))
  have o_y := own_ext o_y hb
  clear hL hSt hb hz fx15 fx17 fx16 hk4
  go_wp2_with fail
  refine (eqRing_c _ _ _ _ _).mono ?_
  rintro e w7 ⟨rfl, hb⟩
  have k7 : Below w.heap.size w w7 := ext_step k6 (by omega) hb
  have p7 := hb.size
  have bx0_0 := ccell hb _ _ _ bx0_0
  have bx1_0 := ccell hb _ _ _ bx1_0
  have bx1_1 := ccell hb _ _ _ bx1_1
  have bx1_2 := ccell hb _ _ _ bx1_2
  have bx1_3 := ccell hb _ _ _ bx1_3
  have bx2_0 := ccell hb _ _ _ bx2_0
  have bx2_1 := ccell hb _ _ _ bx2_1
  have bx2_2 := ccell hb _ _ _ bx2_2
  have bx2_3 := ccell hb _ _ _ bx2_3
  have bx3_0 := ccell hb _ _ _ bx3_0
  have bx4_0 := ccell hb _ _ _ bx4_0
  have bx4_1 := ccell hb _ _ _ bx4_1
  have bx4_2 := ccell hb _ _ _ bx4_2
  have bx4_3 := ccell hb _ _ _ bx4_3
  have bl0 := Nat.lt_of_lt_of_le bl0 hb.size
  have bl1 := Nat.lt_of_lt_of_le bl1 hb.size
  have bl2 := Nat.lt_of_lt_of_le bl2 hb.size
  have bl3 := Nat.lt_of_lt_of_le bl3 hb.size
  have bl4 := Nat.lt_of_lt_of_le bl4 hb.size
  have r_a := r_a.below (hb.mono (by omega))
  have r_b := r_b.below (hb.mono (by omega))
  have r_x := r_x.below (hb.mono (by omega))
  have o_x := own_ext o_x hb
  have r_y := r_y.below (hb.mono (by omega))
  have o_y := own_ext o_y hb
  clear hb
  go_wp2_with fail
  refine (toMappingS_c _ _ _ l _ hn_a hs_a (r_a.more (by omega))).mono ?_
  rintro e w8 ⟨g_z, rfl, hg_z, b_z, hb⟩
  have k8 : Below w.heap.size w w8 := ext_step k7 (by omega) hb
  have p8 := hb.size
  have bx0_0 := ccell hb _ _ _ bx0_0
  have bx1_0 := ccell hb _ _ _ bx1_0
  have bx1_1 := ccell hb _ _ _ bx1_1
  have bx1_2 := ccell hb _ _ _ bx1_2
  have bx1_3 := ccell hb _ _ _ bx1_3
  have bx2_0 := ccell hb _ _ _ bx2_0
  have bx2_1 := ccell hb _ _ _ bx2_1
  have bx2_2 := ccell hb _ _ _ bx2_2
  have bx2_3 := ccell hb _ _ _ bx2_3
  have bx3_0 := ccell hb _ _ _ bx3_0
  have bx4_0 := ccell hb _ _ _ bx4_0
  have bx4_1 := ccell hb _ _ _ bx4_1
  have bx4_2 := ccell hb _ _ _ bx4_2
  have bx4_3 := ccell hb _ _ _ bx4_3
  have bl0 := Nat.lt_of_lt_of_le bl0 hb.size
  have bl1 := Nat.lt_of_lt_of_le bl1 hb.size
  have bl2 := Nat.lt_of_lt_of_le bl2 hb.size
  have bl3 := Nat.lt_of_lt_of_le bl3 hb.size
  have bl4 := Nat.lt_of_lt_of_le bl4 hb.size
  have r_a := r_a.below (hb.mono (by omega))
  have r_b := r_b.below (hb.mono (by omega))
  have r_x := r_x.below (hb.mono (by omega))
  have o_x := own_ext o_x hb
  have r_y := r_y.below (hb.mono (by omega))
  have o_y := own_ext o_y hb
  have r_z := b_z.reads (size := 4) (n := n) (by rw [flatMap_len _ 4 (fun _ => rfl), hn_a])
  have o_z := b_z.own (base := w7.heap.size) (size := 4) (n := n) hg_z (by rw [flatMap_len _ 4 (fun _ => rfl), hn_a]) (by unfold maxLen; omega) rfl
  have u_z := fun k hk => (o_z.lt k hk).2
  clear hb
  go_wp2_with fail
  refine (eqMappingS_c _ _ _ _ _ l _ hn_a (by omega) (r_x.more (by omega)) (r_z.more (by omega))).mono ?_
  rintro e w9 ⟨rfl, hb⟩
  have k9 : Below w.heap.size w w9 := ext_step k8 (by omega) hb
  have p9 := hb.size
  have bx0_0 := ccell hb _ _ _ bx0_0
  have bx1_0 := ccell hb _ _ _ bx1_0
  have bx1_1 := ccell hb _ _ _ bx1_1
  have bx1_2 := ccell hb _ _ _ bx1_2
  have bx1_3 := ccell hb _ _ _ bx1_3
  have bx2_0 := ccell hb _ _ _ bx2_0
  have bx2_1 := ccell hb _ _ _ bx2_1
  have bx2_2 := ccell hb _ _ _ bx2_2
  have bx2_3 := ccell hb _ _ _ bx2_3
  have bx3_0 := ccell hb _ _ _ bx3_0
  have bx4_0 := ccell hb _ _ _ bx4_0
  have bx4_1 := ccell hb _ _ _ bx4_1
  have bx4_2 := ccell hb _ _ _ bx4_2
  have bx4_3 := ccell hb _ _ _ bx4_3
  have bl0 := Nat.lt_of_lt_of_le bl0 hb.size
  have bl1 := Nat.lt_of_lt_of_le bl1 hb.size
  have bl2 := Nat.lt_of_lt_of_le bl2 hb.size
  have bl3 := Nat.lt_of_lt_of_le bl3 hb.size
  have bl4 := Nat.lt_of_lt_of_le bl4 hb.size
  have r_a := r_a.below (hb.mono (by omega))
  have r_b := r_b.below (hb.mono (by omega))
  have r_x := r_x.below (hb.mono (by omega))
  have o_x := own_ext o_x hb
  have r_y := r_y.below (hb.mono (by omega))
  have o_y := own_ext o_y hb
  have r_z := r_z.below (hb.mono (by omega))
  have o_z := own_ext o_z hb
  clear hb
  go_wp2_with fail
  go_region_held3 (fun w' => w'.cell? ⟨w4.heap.size, 0, none⟩ = some (.slice (some ⟨g_y, 0, none⟩) n' n') ∧ w'.cell? ⟨w.heap.size, 0, none⟩ = some (.slice A' n' c')) (exact ⟨bx3_0, bx0_0⟩)
    (first
      | (go_at_call 19; have hb : Below w9.heap.size w9 w9.drew := (Below.refl _ _).drew; generalize hW0 : w9.drew = w10 at *; clear hW0; have k10 : Below w.heap.size w w10 := ext_step k9 (by omega) hb; have p10 := hb.size; have bx0_0 := ccell hb _ _ _ bx0_0; have bx1_0 := ccell hb _ _ _ bx1_0; have bx1_1 := ccell hb _ _ _ bx1_1; have bx1_2 := ccell hb _ _ _ bx1_2; have bx1_3 := ccell hb _ _ _ bx1_3; have bx2_0 := ccell hb _ _ _ bx2_0; have bx2_1 := ccell hb _ _ _ bx2_1; have bx2_2 := ccell hb _ _ _ bx2_2; have bx2_3 := ccell hb _ _ _ bx2_3; have bx3_0 := ccell hb _ _ _ bx3_0; have bx4_0 := ccell hb _ _ _ bx4_0; have bx4_1 := ccell hb _ _ _ bx4_1; have bx4_2 := ccell hb _ _ _ bx4_2; have bx4_3 := ccell hb _ _ _ bx4_3; have bl0 := Nat.lt_of_lt_of_le bl0 hb.size; have bl1 := Nat.lt_of_lt_of_le bl1 hb.size; have bl2 := Nat.lt_of_lt_of_le bl2 hb.size; have bl3 := Nat.lt_of_lt_of_le bl3 hb.size; have bl4 := Nat.lt_of_lt_of_le bl4 hb.size; have r_a := r_a.below (hb.mono (by omega)); have r_b := r_b.below (hb.mono (by omega)); have r_x := r_x.below (hb.mono (by omega)); have o_x := own_ext o_x hb; have r_y := r_y.below (hb.mono (by omega)); have o_y := own_ext o_y hb; clear hb; refine (toMemory_c _ _ _ l' _ hn_b hs_b (r_b.more (by omega))).mono ?_; rintro e w11 ⟨g_z, rfl, hg_z, b_z, hb⟩; have k11 : Below w.heap.size w w11 := ext_step k10 (by omega) hb; have p11 := hb.size; have bx0_0 := ccell hb _ _ _ bx0_0; have bx1_0 := ccell hb _ _ _ bx1_0; have bx1_1 := ccell hb _ _ _ bx1_1; have bx1_2 := ccell hb _ _ _ bx1_2; have bx1_3 := ccell hb _ _ _ bx1_3; have bx2_0 := ccell hb _ _ _ bx2_0; have bx2_1 := ccell hb _ _ _ bx2_1; have bx2_2 := ccell hb _ _ _ bx2_2; have bx2_3 := ccell hb _ _ _ bx2_3; have bx3_0 := ccell hb _ _ _ bx3_0; have bx4_0 := ccell hb _ _ _ bx4_0; have bx4_1 := ccell hb _ _ _ bx4_1; have bx4_2 := ccell hb _ _ _ bx4_2; have bx4_3 := ccell hb _ _ _ bx4_3; have bl0 := Nat.lt_of_lt_of_le bl0 hb.size; have bl1 := Nat.lt_of_lt_of_le bl1 hb.size; have bl2 := Nat.lt_of_lt_of_le bl2 hb.size; have bl3 := Nat.lt_of_lt_of_le bl3 hb.size; have bl4 := Nat.lt_of_lt_of_le bl4 hb.size; have r_a := r_a.below (hb.mono (by omega)); have r_b := r_b.below (hb.mono (by omega)); have r_x := r_x.below (hb.mono (by omega)); have o_x := own_ext o_x hb; have r_y := r_y.below (hb.mono (by omega)); have o_y := own_ext o_y hb; have r_z := b_z.reads (size := 1) (n := n') (by rw [flatMap_len _ 1 (fun _ => rfl), hn_b]); have o_z := b_z.own (base := w10.heap.size) (size := 1) (n := n') hg_z (by rw [flatMap_len _ 1 (fun _ => rfl), hn_b]) (by unfold maxLen; omega) rfl; have u_z := fun k hk => (o_z.lt k hk).2; clear hb)
      | (go_at_call 22; refine (eqMemory_c _ _ _ _ _ l' _ hn_b (by omega) (r_y.more (by omega)) (r_z.more (by omega))).mono ?_; rintro e w12 ⟨rfl, hb⟩; have k12 : Below w.heap.size w w12 := ext_step k11 (by omega) hb; have p12 := hb.size; have bx0_0 := ccell hb _ _ _ bx0_0; have bx1_0 := ccell hb _ _ _ bx1_0; have bx1_1 := ccell hb _ _ _ bx1_1; have bx1_2 := ccell hb _ _ _ bx1_2; have bx1_3 := ccell hb _ _ _ bx1_3; have bx2_0 := ccell hb _ _ _ bx2_0; have bx2_1 := ccell hb _ _ _ bx2_1; have bx2_2 := ccell hb _ _ _ bx2_2; have bx2_3 := ccell hb _ _ _ bx2_3; have bx3_0 := ccell hb _ _ _ bx3_0; have bx4_0 := ccell hb _ _ _ bx4_0; have bx4_1 := ccell hb _ _ _ bx4_1; have bx4_2 := ccell hb _ _ _ bx4_2; have bx4_3 := ccell hb _ _ _ bx4_3; have bl0 := Nat.lt_of_lt_of_le bl0 hb.size; have bl1 := Nat.lt_of_lt_of_le bl1 hb.size; have bl2 := Nat.lt_of_lt_of_le bl2 hb.size; have bl3 := Nat.lt_of_lt_of_le bl3 hb.size; have bl4 := Nat.lt_of_lt_of_le bl4 hb.size; have r_a := r_a.below (hb.mono (by omega)); have r_b := r_b.below (hb.mono (by omega)); have r_x := r_x.below (hb.mono (by omega)); have o_x := own_ext o_x hb; have r_y := r_y.below (hb.mono (by omega)); have o_y := own_ext o_y hb; have r_z := r_z.below (hb.mono (by omega)); have o_z := own_ext o_z hb; clear hb))
  go_wp2
  go_ret
  exact ⟨rfl, k12⟩
end Go.Proofs.Ytjeenjblenpinaa
