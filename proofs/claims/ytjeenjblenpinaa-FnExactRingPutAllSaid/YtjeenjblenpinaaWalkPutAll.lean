/- The walk of laws.FnExactRingPutAll. -/
import Derived.Test.YtjeenjblenpinaaConvMap
import Derived.Test.YtjeenjblenpinaaConvMem
import Derived.Test.YtjeenjblenpinaaConvRing
import Derived.Test.YtjeenjblenpinaaPutAllI
import Derived.Test.YtjeenjblenpinaaPutAllS
import Derived.Deep.RegionHeld3
namespace Go.Proofs.Ytjeenjblenpinaa
set_option linter.unusedSimpArgs false
set_option linter.unusedVariables false
open Go.RowKit Go.ChangeShapes Go.WideShapes
theorem totS_mem {l : List ByteArray} {x : ByteArray} (h : x ∈ l) : (x.size : Int) ≤ totS l := by
  induction l with
  | nil => cases h
  | cons s l ih =>
    have h1 := totS_nonneg l
    have h2 : totS (s :: l) = (s.size : Int) + totS l := by simp [totS]
    rcases List.mem_cons.1 h with rfl | h
    · omega
    · have := ih h; omega
set_option maxRecDepth 100000 in
set_option maxHeartbeats 8000000 in
theorem fnExactRingPutAll_walk (A : Option Addr) (n c : Nat) (l : List Mapping) (A' : Option Addr) (n' c' : Nat) (l' : List ByteArray) (d base size head tail : Int) (A3 : Option Addr) (n3 c3 : Nat) (l3 : List ByteArray) (w : World) (hs : SlMapping w A n c l) (hs' : SlStr w A' n' c' l') (q0 : I64 d) (q1 : I64 base) (q2 : I64 size) (q3 : I64 head) (q4 : I64 tail) (hs3 : SlStr w A3 n3 c3 l3) :
    Calls Try.prog 11 #[.slice A n c, .agg #[.slice A' n' c'], .int .i64 d, .agg #[.int .i64 base, .int .i64 size, .int .i64 head, .int .i64 tail], .slice A3 n3 c3] w fun e w' => e = .returned (.bool true) ∧ Below w.heap.size w w' := by
  obtain ⟨⟨hn_a, hnc_a, hc_a, r_a⟩, hb_a⟩ := hs
  obtain ⟨⟨hn_b, hnc_b, hc_b, r_b⟩, hb_b⟩ := hs'
  obtain ⟨⟨hn_p, hnc_p, hc_p, r_p⟩, hb_p⟩ := hs3
  have hspec0 := fun (hi : ∀ x ∈ l3, x.size ≤ 1048576) A c A' c' A3 c3 w => fun (hm : n ≤ 1048576) (hm' : n' ≤ 1048576) (hm3 : n3 ≤ 1048576) hr hr' hr3 => specRingPutAll_c A A' A3 n c n' c' n3 c3 l l' l3 w hn_a hn_b hn_p hm hm' hm3 hr hr' hr3 d base size head tail q3 q4 hi
  have himpl0 := fun (hi : ∀ x ∈ l3, x.size ≤ 1048576) A c A' c' A3 c3 w => fun (hm : n ≤ 1048576) (hm' : n' ≤ 1048576) (hm3 : n3 ≤ 1048576) hr hr' hr3 => implRingPutAll_c A A' A3 n c n' c' n3 c3 l l' l3 w hn_a hn_b hn_p hm hm' hm3 hr hr' hr3 d base size head tail q3 q4 hi
  have hn_v := paM_len (l := l) (pg := l') (d := d) (base := base) (size := size) (head := head) (tail := tail) (es := l3)
  rw [hn_b] at hn_v
  generalize paM l l' d base size head tail l3 = lw at *
  generalize paB l l' d base size head tail l3 = bo at *
  generalize paT l l' d base size head tail l3 = tlo at *
  have ht_b := totS_nonneg l'
  have ht_p := totS_nonneg l3
  by_cases hz_a : (1048576 : Int) - n < 0
  · skip
    have hi_a := Lib.hid (szI_neg hz_a)
    go_enter Try.func11, Try.ntmps11
    go_wp2_with fail
    have k0 : Below w.heap.size w ((w.alloc (.cells #[.slice A' n' c'] 25)).alloc (.cells #[.int .i64 base, .int .i64 size, .int .i64 head, .int .i64 tail] 55)) := by go_grown
    have bx0_0 : ((w.alloc (.cells #[.slice A' n' c'] 25)).alloc (.cells #[.int .i64 base, .int .i64 size, .int .i64 head, .int .i64 tail] 55)).cell? ⟨w.heap.size, 0, none⟩ = some (.slice A' n' c') := by simp [go_sem]
    have bl0 : w.heap.size < ((w.alloc (.cells #[.slice A' n' c'] 25)).alloc (.cells #[.int .i64 base, .int .i64 size, .int .i64 head, .int .i64 tail] 55)).heap.size := by go_size
    have bx1_0 : ((w.alloc (.cells #[.slice A' n' c'] 25)).alloc (.cells #[.int .i64 base, .int .i64 size, .int .i64 head, .int .i64 tail] 55)).cell? ⟨w.heap.size + 1, 0, none⟩ = some (.int .i64 base) := by simp [go_sem]
    have bx1_1 : ((w.alloc (.cells #[.slice A' n' c'] 25)).alloc (.cells #[.int .i64 base, .int .i64 size, .int .i64 head, .int .i64 tail] 55)).cell? ⟨w.heap.size + 1, 1, none⟩ = some (.int .i64 size) := by simp [go_sem]
    have bx1_2 : ((w.alloc (.cells #[.slice A' n' c'] 25)).alloc (.cells #[.int .i64 base, .int .i64 size, .int .i64 head, .int .i64 tail] 55)).cell? ⟨w.heap.size + 1, 2, none⟩ = some (.int .i64 head) := by simp [go_sem]
    have bx1_3 : ((w.alloc (.cells #[.slice A' n' c'] 25)).alloc (.cells #[.int .i64 base, .int .i64 size, .int .i64 head, .int .i64 tail] 55)).cell? ⟨w.heap.size + 1, 3, none⟩ = some (.int .i64 tail) := by simp [go_sem]
    have bl1 : w.heap.size + 1 < ((w.alloc (.cells #[.slice A' n' c'] 25)).alloc (.cells #[.int .i64 base, .int .i64 size, .int .i64 head, .int .i64 tail] 55)).heap.size := by go_size
    have r_a := r_a.below k0
    have r_b := r_b.below k0
    have r_p := r_p.below k0
    have p0 := k0.size
    generalize hW0 : ((w.alloc (.cells #[.slice A' n' c'] 25)).alloc (.cells #[.int .i64 base, .int .i64 size, .int .i64 head, .int .i64 tail] 55)) = w0 at *
    clear hW0
    refine (szMappingS_c2 _ _ _ (1048576 : Int) _ (by omega) (by omega) (by omega)).mono ?_
    rintro e w_ ⟨rfl, rfl⟩
    rw [hi_a.out]
    go_wp2
    go_ret
    exact ⟨rfl, k0⟩
  have hi_a := Lib.hid (szI_nn hz_a)
  by_cases hz_b : ((1048576 : Int) - n) - n' - totS l' < 0
  · skip
    have hi_b := Lib.hid (szI_neg hz_b)
    go_enter Try.func11, Try.ntmps11
    go_wp2_with fail
    have k0 : Below w.heap.size w ((w.alloc (.cells #[.slice A' n' c'] 25)).alloc (.cells #[.int .i64 base, .int .i64 size, .int .i64 head, .int .i64 tail] 55)) := by go_grown
    have bx0_0 : ((w.alloc (.cells #[.slice A' n' c'] 25)).alloc (.cells #[.int .i64 base, .int .i64 size, .int .i64 head, .int .i64 tail] 55)).cell? ⟨w.heap.size, 0, none⟩ = some (.slice A' n' c') := by simp [go_sem]
    have bl0 : w.heap.size < ((w.alloc (.cells #[.slice A' n' c'] 25)).alloc (.cells #[.int .i64 base, .int .i64 size, .int .i64 head, .int .i64 tail] 55)).heap.size := by go_size
    have bx1_0 : ((w.alloc (.cells #[.slice A' n' c'] 25)).alloc (.cells #[.int .i64 base, .int .i64 size, .int .i64 head, .int .i64 tail] 55)).cell? ⟨w.heap.size + 1, 0, none⟩ = some (.int .i64 base) := by simp [go_sem]
    have bx1_1 : ((w.alloc (.cells #[.slice A' n' c'] 25)).alloc (.cells #[.int .i64 base, .int .i64 size, .int .i64 head, .int .i64 tail] 55)).cell? ⟨w.heap.size + 1, 1, none⟩ = some (.int .i64 size) := by simp [go_sem]
    have bx1_2 : ((w.alloc (.cells #[.slice A' n' c'] 25)).alloc (.cells #[.int .i64 base, .int .i64 size, .int .i64 head, .int .i64 tail] 55)).cell? ⟨w.heap.size + 1, 2, none⟩ = some (.int .i64 head) := by simp [go_sem]
    have bx1_3 : ((w.alloc (.cells #[.slice A' n' c'] 25)).alloc (.cells #[.int .i64 base, .int .i64 size, .int .i64 head, .int .i64 tail] 55)).cell? ⟨w.heap.size + 1, 3, none⟩ = some (.int .i64 tail) := by simp [go_sem]
    have bl1 : w.heap.size + 1 < ((w.alloc (.cells #[.slice A' n' c'] 25)).alloc (.cells #[.int .i64 base, .int .i64 size, .int .i64 head, .int .i64 tail] 55)).heap.size := by go_size
    have r_a := r_a.below k0
    have r_b := r_b.below k0
    have r_p := r_p.below k0
    have p0 := k0.size
    generalize hW0 : ((w.alloc (.cells #[.slice A' n' c'] 25)).alloc (.cells #[.int .i64 base, .int .i64 size, .int .i64 head, .int .i64 tail] 55)) = w0 at *
    clear hW0
    refine (szMappingS_c2 _ _ _ (1048576 : Int) _ (by omega) (by omega) (by omega)).mono ?_
    rintro e w_ ⟨rfl, rfl⟩
    rw [hi_a.out]
    go_wp2_with fail
    refine (szMemory_c _ _ _ l' ((1048576 : Int) - n) _ (by omega) (by omega) hn_b (by omega) (r_b.more (by omega)) hb_b).mono ?_
    rintro e w1 ⟨rfl, hb⟩
    have k1 : Below w.heap.size w w1 := ext_step k0 (by omega) hb
    have p1 := hb.size
    replace bx0_0 := ccell hb _ _ _ bx0_0
    replace bx1_0 := ccell hb _ _ _ bx1_0
    replace bx1_1 := ccell hb _ _ _ bx1_1
    replace bx1_2 := ccell hb _ _ _ bx1_2
    replace bx1_3 := ccell hb _ _ _ bx1_3
    have bl0 := Nat.lt_of_lt_of_le bl0 hb.size
    have bl1 := Nat.lt_of_lt_of_le bl1 hb.size
    replace r_a := r_a.below (hb.mono (by omega))
    replace r_b := r_b.below (hb.mono (by omega))
    replace r_p := r_p.below (hb.mono (by omega))
    rw [hi_b.out]
    clear hb
    go_wp2
    go_ret
    exact ⟨rfl, k1⟩
  have hi_b := Lib.hid (szI_nn hz_b)
  by_cases hz_p : (((1048576 : Int) - n) - n' - totS l') - n3 - totS l3 < 0
  · skip
    have hi_p := Lib.hid (szI_neg hz_p)
    go_enter Try.func11, Try.ntmps11
    go_wp2_with fail
    have k0 : Below w.heap.size w ((w.alloc (.cells #[.slice A' n' c'] 25)).alloc (.cells #[.int .i64 base, .int .i64 size, .int .i64 head, .int .i64 tail] 55)) := by go_grown
    have bx0_0 : ((w.alloc (.cells #[.slice A' n' c'] 25)).alloc (.cells #[.int .i64 base, .int .i64 size, .int .i64 head, .int .i64 tail] 55)).cell? ⟨w.heap.size, 0, none⟩ = some (.slice A' n' c') := by simp [go_sem]
    have bl0 : w.heap.size < ((w.alloc (.cells #[.slice A' n' c'] 25)).alloc (.cells #[.int .i64 base, .int .i64 size, .int .i64 head, .int .i64 tail] 55)).heap.size := by go_size
    have bx1_0 : ((w.alloc (.cells #[.slice A' n' c'] 25)).alloc (.cells #[.int .i64 base, .int .i64 size, .int .i64 head, .int .i64 tail] 55)).cell? ⟨w.heap.size + 1, 0, none⟩ = some (.int .i64 base) := by simp [go_sem]
    have bx1_1 : ((w.alloc (.cells #[.slice A' n' c'] 25)).alloc (.cells #[.int .i64 base, .int .i64 size, .int .i64 head, .int .i64 tail] 55)).cell? ⟨w.heap.size + 1, 1, none⟩ = some (.int .i64 size) := by simp [go_sem]
    have bx1_2 : ((w.alloc (.cells #[.slice A' n' c'] 25)).alloc (.cells #[.int .i64 base, .int .i64 size, .int .i64 head, .int .i64 tail] 55)).cell? ⟨w.heap.size + 1, 2, none⟩ = some (.int .i64 head) := by simp [go_sem]
    have bx1_3 : ((w.alloc (.cells #[.slice A' n' c'] 25)).alloc (.cells #[.int .i64 base, .int .i64 size, .int .i64 head, .int .i64 tail] 55)).cell? ⟨w.heap.size + 1, 3, none⟩ = some (.int .i64 tail) := by simp [go_sem]
    have bl1 : w.heap.size + 1 < ((w.alloc (.cells #[.slice A' n' c'] 25)).alloc (.cells #[.int .i64 base, .int .i64 size, .int .i64 head, .int .i64 tail] 55)).heap.size := by go_size
    have r_a := r_a.below k0
    have r_b := r_b.below k0
    have r_p := r_p.below k0
    have p0 := k0.size
    generalize hW0 : ((w.alloc (.cells #[.slice A' n' c'] 25)).alloc (.cells #[.int .i64 base, .int .i64 size, .int .i64 head, .int .i64 tail] 55)) = w0 at *
    clear hW0
    refine (szMappingS_c2 _ _ _ (1048576 : Int) _ (by omega) (by omega) (by omega)).mono ?_
    rintro e w_ ⟨rfl, rfl⟩
    rw [hi_a.out]
    go_wp2_with fail
    refine (szMemory_c _ _ _ l' ((1048576 : Int) - n) _ (by omega) (by omega) hn_b (by omega) (r_b.more (by omega)) hb_b).mono ?_
    rintro e w1 ⟨rfl, hb⟩
    have k1 : Below w.heap.size w w1 := ext_step k0 (by omega) hb
    have p1 := hb.size
    replace bx0_0 := ccell hb _ _ _ bx0_0
    replace bx1_0 := ccell hb _ _ _ bx1_0
    replace bx1_1 := ccell hb _ _ _ bx1_1
    replace bx1_2 := ccell hb _ _ _ bx1_2
    replace bx1_3 := ccell hb _ _ _ bx1_3
    have bl0 := Nat.lt_of_lt_of_le bl0 hb.size
    have bl1 := Nat.lt_of_lt_of_le bl1 hb.size
    replace r_a := r_a.below (hb.mono (by omega))
    replace r_b := r_b.below (hb.mono (by omega))
    replace r_p := r_p.below (hb.mono (by omega))
    rw [hi_b.out]
    clear hb
    go_wp2_with fail
    refine (szStringS_c _ _ _ l3 (((1048576 : Int) - n) - n' - totS l') _ (by omega) (by omega) hn_p (by omega) (r_p.more (by omega)) hb_p).mono ?_
    rintro e w2 ⟨rfl, hb⟩
    have k2 : Below w.heap.size w w2 := ext_step k1 (by omega) hb
    have p2 := hb.size
    replace bx0_0 := ccell hb _ _ _ bx0_0
    replace bx1_0 := ccell hb _ _ _ bx1_0
    replace bx1_1 := ccell hb _ _ _ bx1_1
    replace bx1_2 := ccell hb _ _ _ bx1_2
    replace bx1_3 := ccell hb _ _ _ bx1_3
    have bl0 := Nat.lt_of_lt_of_le bl0 hb.size
    have bl1 := Nat.lt_of_lt_of_le bl1 hb.size
    replace r_a := r_a.below (hb.mono (by omega))
    replace r_b := r_b.below (hb.mono (by omega))
    replace r_p := r_p.below (hb.mono (by omega))
    rw [hi_p.out]
    clear hb
    go_wp2
    go_ret
    exact ⟨rfl, k2⟩
  have hi_p := Lib.hid (szI_nn hz_p)
  go_enter Try.func11, Try.ntmps11
  go_wp2_with fail
  have k0 : Below w.heap.size w ((w.alloc (.cells #[.slice A' n' c'] 25)).alloc (.cells #[.int .i64 base, .int .i64 size, .int .i64 head, .int .i64 tail] 55)) := by go_grown
  have bx0_0 : ((w.alloc (.cells #[.slice A' n' c'] 25)).alloc (.cells #[.int .i64 base, .int .i64 size, .int .i64 head, .int .i64 tail] 55)).cell? ⟨w.heap.size, 0, none⟩ = some (.slice A' n' c') := by simp [go_sem]
  have bl0 : w.heap.size < ((w.alloc (.cells #[.slice A' n' c'] 25)).alloc (.cells #[.int .i64 base, .int .i64 size, .int .i64 head, .int .i64 tail] 55)).heap.size := by go_size
  have bx1_0 : ((w.alloc (.cells #[.slice A' n' c'] 25)).alloc (.cells #[.int .i64 base, .int .i64 size, .int .i64 head, .int .i64 tail] 55)).cell? ⟨w.heap.size + 1, 0, none⟩ = some (.int .i64 base) := by simp [go_sem]
  have bx1_1 : ((w.alloc (.cells #[.slice A' n' c'] 25)).alloc (.cells #[.int .i64 base, .int .i64 size, .int .i64 head, .int .i64 tail] 55)).cell? ⟨w.heap.size + 1, 1, none⟩ = some (.int .i64 size) := by simp [go_sem]
  have bx1_2 : ((w.alloc (.cells #[.slice A' n' c'] 25)).alloc (.cells #[.int .i64 base, .int .i64 size, .int .i64 head, .int .i64 tail] 55)).cell? ⟨w.heap.size + 1, 2, none⟩ = some (.int .i64 head) := by simp [go_sem]
  have bx1_3 : ((w.alloc (.cells #[.slice A' n' c'] 25)).alloc (.cells #[.int .i64 base, .int .i64 size, .int .i64 head, .int .i64 tail] 55)).cell? ⟨w.heap.size + 1, 3, none⟩ = some (.int .i64 tail) := by simp [go_sem]
  have bl1 : w.heap.size + 1 < ((w.alloc (.cells #[.slice A' n' c'] 25)).alloc (.cells #[.int .i64 base, .int .i64 size, .int .i64 head, .int .i64 tail] 55)).heap.size := by go_size
  have r_a := r_a.below k0
  have r_b := r_b.below k0
  have r_p := r_p.below k0
  have p0 := k0.size
  generalize hW0 : ((w.alloc (.cells #[.slice A' n' c'] 25)).alloc (.cells #[.int .i64 base, .int .i64 size, .int .i64 head, .int .i64 tail] 55)) = w0 at *
  clear hW0
  refine (szMappingS_c2 _ _ _ (1048576 : Int) _ (by omega) (by omega) (by omega)).mono ?_
  rintro e w_ ⟨rfl, rfl⟩
  rw [hi_a.out]
  go_wp2_with fail
  refine (szMemory_c _ _ _ l' ((1048576 : Int) - n) _ (by omega) (by omega) hn_b (by omega) (r_b.more (by omega)) hb_b).mono ?_
  rintro e w1 ⟨rfl, hb⟩
  have k1 : Below w.heap.size w w1 := ext_step k0 (by omega) hb
  have p1 := hb.size
  replace bx0_0 := ccell hb _ _ _ bx0_0
  replace bx1_0 := ccell hb _ _ _ bx1_0
  replace bx1_1 := ccell hb _ _ _ bx1_1
  replace bx1_2 := ccell hb _ _ _ bx1_2
  replace bx1_3 := ccell hb _ _ _ bx1_3
  have bl0 := Nat.lt_of_lt_of_le bl0 hb.size
  have bl1 := Nat.lt_of_lt_of_le bl1 hb.size
  replace r_a := r_a.below (hb.mono (by omega))
  replace r_b := r_b.below (hb.mono (by omega))
  replace r_p := r_p.below (hb.mono (by omega))
  rw [hi_b.out]
  clear hb
  go_wp2_with fail
  refine (szStringS_c _ _ _ l3 (((1048576 : Int) - n) - n' - totS l') _ (by omega) (by omega) hn_p (by omega) (r_p.more (by omega)) hb_p).mono ?_
  rintro e w2 ⟨rfl, hb⟩
  have k2 : Below w.heap.size w w2 := ext_step k1 (by omega) hb
  have p2 := hb.size
  replace bx0_0 := ccell hb _ _ _ bx0_0
  replace bx1_0 := ccell hb _ _ _ bx1_0
  replace bx1_1 := ccell hb _ _ _ bx1_1
  replace bx1_2 := ccell hb _ _ _ bx1_2
  replace bx1_3 := ccell hb _ _ _ bx1_3
  have bl0 := Nat.lt_of_lt_of_le bl0 hb.size
  have bl1 := Nat.lt_of_lt_of_le bl1 hb.size
  replace r_a := r_a.below (hb.mono (by omega))
  replace r_b := r_b.below (hb.mono (by omega))
  replace r_p := r_p.below (hb.mono (by omega))
  rw [hi_p.out]
  clear hb
  have hs_a : n ≤ 1048576 := by omega
  have hs_b : n' ≤ 1048576 := by omega
  have hs_p : n3 ≤ 1048576 := by omega
  have hE3 : ∀ x ∈ l3, x.size ≤ 1048576 := fun x hx => by have h1 := totS_mem hx; omega
  have hspec := hspec0 hE3
  have himpl := himpl0 hE3
  clear hspec0 himpl0 hE3
  go_wp2_with fail
  have hBB : w2.heap.size ≤ w2.heap.size := by omega
  refine wp_region_slotsS (w2.heap.size) [(43, fun _ v => v = .slice A n c), (44, RowP w2.heap.size 77 4 n (l.flatMap Mapping.cells) (fun A c => .slice A n c)), (45, fun _ v => v = .agg #[.slice A' n' c']), (46, RowP w2.heap.size 9 1 n' (l'.flatMap fun x : ByteArray => [Value.string x]) (fun A c => .agg #[.slice A n' c])), (47, fun _ v => v = .int .i64 d), (48, fun _ v => v = .agg #[.int .i64 base, .int .i64 size, .int .i64 head, .int .i64 tail]), (49, fun _ v => v = .agg #[.int .i64 base, .int .i64 size, .int .i64 head, .int .i64 tail]), (50, fun _ v => v = .slice A3 n3 c3), (51, RowP w2.heap.size 9 1 n3 (l3.flatMap fun x : ByteArray => [Value.string x]) (fun A c => .slice A n3 c)), (52, RowP w2.heap.size 9 1 n' (lw.flatMap fun x : ByteArray => [Value.string x]) (fun A c => .tuple #[.agg #[.slice A n' c], .agg #[.int .i64 base, .int .i64 size, .int .i64 head, .int .i64 tlo], .bool bo])), (42, RowP w2.heap.size 9 1 n' (lw.flatMap fun x : ByteArray => [Value.string x]) (fun A c => .tuple #[.agg #[.slice A n' c], .agg #[.int .i64 base, .int .i64 size, .int .i64 head, .int .i64 tlo], .bool bo])), (53, RowP w2.heap.size 9 1 n' (lw.flatMap fun x : ByteArray => [Value.string x]) (fun A c => .agg #[.slice A n' c])), (54, fun _ v => v = .agg #[.int .i64 base, .int .i64 size, .int .i64 head, .int .i64 tlo]), (55, fun _ v => v = .bool bo), (12, BoxP w2.heap.size 32 1), (13, BoxP w2.heap.size 56 4), (14, fun _ v => v = .bool bo)] [⟨16, 12, fun _ => True, StoR w2.heap.size 32 9 1 n' (lw.flatMap fun x : ByteArray => [Value.string x]) (fun A c => [.slice A n' c])⟩, ⟨17, 13, fun _ => True, StoP w2.heap.size 56 [.int .i64 base, .int .i64 size, .int .i64 head, .int .i64 tlo]⟩] (fun _ => True) (by kernel_rfl) hBB (by kernel_rfl) (by kernel_rfl) (by kernel_rfl) (by kernel_rfl) ?_ ?_ ?_ ?_ ?_ ?_ ?_
  · intro p hp
    simp only [List.mem_cons, List.not_mem_nil, or_false] at hp
    rcases hp with rfl | rfl | rfl | rfl | rfl | rfl | rfl | rfl | rfl | rfl | rfl | rfl | rfl | rfl | rfl | rfl | rfl
    all_goals (intro u u' v hb hv; first | exact hv | exact BoxP.keep hv hb | exact RowP.keep hv hb)
  · intro s hs u u' hb
    simp only [List.mem_cons, List.not_mem_nil, or_false] at hs
    rcases hs with rfl | rfl
    all_goals (refine ⟨fun h => ?_, fun _ h => ?_⟩ <;> first | exact h | exact StoP.keep h hb | exact StoR.keep h hb | exact Blk.ext h hb | exact StaR.keep h hb)
  · intro s hs
    simp only [List.mem_cons, List.not_mem_nil, or_false] at hs
    rcases hs with rfl | rfl
    all_goals first | trivial
  · exact trivial
  · intro u u' hb hj
    exact trivial
  · intro hGk hSk hJk
    refine allStep_cons (stepS_plain hGk hSk hBB hJk (by kernel_rfl) rfl ?_) ?_
    · intro a u hb hz hj hl hp K Q hK
      have e0 : a.tmps[0]?.getD undef = .slice A n c := gd (hl 0 (by kernel_rfl))
      go_simp
      exact hK _ _ (Below.refl _ _) (by intro d hd; cases hd; exact rfl)
    refine allStep_cons (stepS_plain hGk hSk hBB hJk (by kernel_rfl) rfl ?_) ?_
    · intro a u hb hz hj hl hp K Q hK
      have e43 : a.tmps[43]?.getD undef = .slice A n c := gd (hl 43 (by kernel_rfl))
      go_simp
      refine (toMappingS_c _ _ _ l _ hn_a hs_a ((r_a.below (hb.mono (by omega))).more (by omega))).mono ?_
      rintro e u1 ⟨g, rfl, hg, bb, hb1⟩
      exact hK _ _ hb1 (by intro d hd; cases hd; exact ⟨_, _, rfl, bb.own (base := w2.heap.size) (size := 4) (n := n) (by omega) (by rw [flatMap_len _ 4 (fun _ => rfl), hn_a]) (by unfold maxLen; omega) rfl⟩)
    refine allStep_cons (stepS_plain hGk hSk hBB hJk (by kernel_rfl) rfl ?_) ?_
    · intro a u hb hz hj hl hp K Q hK
      have e6 : a.tmps[6]?.getD undef = .pointer (some ⟨w.heap.size, 0, none⟩) := gd (hl 6 (by kernel_rfl))
      have bx0_0 := ccell hb _ _ _ bx0_0
      go_simp
      exact hK _ _ (Below.refl _ _) (by intro d hd; cases hd; exact rfl)
    refine allStep_cons (stepS_plain hGk hSk hBB hJk (by kernel_rfl) rfl ?_) ?_
    · intro a u hb hz hj hl hp K Q hK
      have e45 : a.tmps[45]?.getD undef = .agg #[.slice A' n' c'] := gd (hl 45 (by kernel_rfl))
      go_simp
      refine (toMemory_c _ _ _ l' _ hn_b hs_b ((r_b.below (hb.mono (by omega))).more (by omega))).mono ?_
      rintro e u1 ⟨g, rfl, hg, bb, hb1⟩
      exact hK _ _ hb1 (by intro d hd; cases hd; exact ⟨_, _, rfl, bb.own (base := w2.heap.size) (size := 1) (n := n') (by omega) (by rw [flatMap_len _ 1 (fun _ => rfl), hn_b]) (by unfold maxLen; omega) rfl⟩)
    refine allStep_cons (stepS_plain hGk hSk hBB hJk (by kernel_rfl) rfl ?_) ?_
    · intro a u hb hz hj hl hp K Q hK
      have e2 : a.tmps[2]?.getD undef = .int .i64 d := gd (hl 2 (by kernel_rfl))
      go_simp
      exact hK _ _ (Below.refl _ _) (by intro d hd; cases hd; exact rfl)
    refine allStep_cons (stepS_plain hGk hSk hBB hJk (by kernel_rfl) rfl ?_) ?_
    · intro a u hb hz hj hl hp K Q hK
      have e8 : a.tmps[8]?.getD undef = .pointer (some ⟨w.heap.size + 1, 0, none⟩) := gd (hl 8 (by kernel_rfl))
      have bx1_0 := ccell hb _ _ _ bx1_0
      have bx1_1 := ccell hb _ _ _ bx1_1
      have bx1_2 := ccell hb _ _ _ bx1_2
      have bx1_3 := ccell hb _ _ _ bx1_3
      go_simp
      exact hK _ _ (Below.refl _ _) (by intro d hd; cases hd; exact rfl)
    refine allStep_cons (stepS_plain hGk hSk hBB hJk (by kernel_rfl) rfl ?_) ?_
    · intro a u hb hz hj hl hp K Q hK
      have e48 : a.tmps[48]?.getD undef = .agg #[.int .i64 base, .int .i64 size, .int .i64 head, .int .i64 tail] := gd (hl 48 (by kernel_rfl))
      go_simp
      refine (toRing_c _ _ _ _ _).mono ?_
      rintro e u1 ⟨rfl, hb1⟩
      exact hK _ _ hb1 (by intro d hd; cases hd; exact rfl)
    refine allStep_cons (stepS_plain hGk hSk hBB hJk (by kernel_rfl) rfl ?_) ?_
    · intro a u hb hz hj hl hp K Q hK
      have e4 : a.tmps[4]?.getD undef = .slice A3 n3 c3 := gd (hl 4 (by kernel_rfl))
      go_simp
      exact hK _ _ (Below.refl _ _) (by intro d hd; cases hd; exact rfl)
    refine allStep_cons (stepS_plain hGk hSk hBB hJk (by kernel_rfl) rfl ?_) ?_
    · intro a u hb hz hj hl hp K Q hK
      have e50 : a.tmps[50]?.getD undef = .slice A3 n3 c3 := gd (hl 50 (by kernel_rfl))
      go_simp
      refine (toStringS_c _ _ _ l3 _ hn_p hs_p ((r_p.below (hb.mono (by omega))).more (by omega))).mono ?_
      rintro e u1 ⟨g, rfl, hg, bb, hb1⟩
      exact hK _ _ hb1 (by intro d hd; cases hd; exact ⟨_, _, rfl, bb.own (base := w2.heap.size) (size := 1) (n := n3) (by omega) (by rw [flatMap_len _ 1 (fun _ => rfl), hn_p]) (by unfold maxLen; omega) rfl⟩)
    refine allStep_cons (stepS_plain hGk hSk hBB hJk (by kernel_rfl) rfl ?_) ?_
    · intro a u hb hz hj hl hp K Q hK
      obtain ⟨A1, c1, ex44, o1⟩ : RowP w2.heap.size 77 4 n (l.flatMap Mapping.cells) (fun A c => .slice A n c) u (a.tmps.getD 44 undef) := hl 44 (by kernel_rfl)
      have e44 := gd ex44
      obtain ⟨A2, c2, ex46, o2⟩ : RowP w2.heap.size 9 1 n' (l'.flatMap fun x : ByteArray => [Value.string x]) (fun A c => .agg #[.slice A n' c]) u (a.tmps.getD 46 undef) := hl 46 (by kernel_rfl)
      have e46 := gd ex46
      have e47 : a.tmps[47]?.getD undef = .int .i64 d := gd (hl 47 (by kernel_rfl))
      have e49 : a.tmps[49]?.getD undef = .agg #[.int .i64 base, .int .i64 size, .int .i64 head, .int .i64 tail] := gd (hl 49 (by kernel_rfl))
      obtain ⟨A5, c5, ex51, o5⟩ : RowP w2.heap.size 9 1 n3 (l3.flatMap fun x : ByteArray => [Value.string x]) (fun A c => .slice A n3 c) u (a.tmps.getD 51 undef) := hl 51 (by kernel_rfl)
      have e51 := gd ex51
      go_simp
      refine (hspec _ _ _ _ _ _ _ hs_a hs_b hs_p (Reads.of_own o1) (Reads.of_own o2) (Reads.of_own o5)).mono ?_
      rintro e u1 ⟨A_v, c_v, rfl, o_v, hb1⟩
      exact hK _ _ hb1 (by intro d hd; cases hd; exact ⟨A_v, c_v, rfl, own_base o_v (by omega)⟩)
    refine allStep_cons (stepS_plain hGk hSk hBB hJk (by kernel_rfl) rfl ?_) ?_
    · intro a u hb hz hj hl hp K Q hK
      obtain ⟨A1, c1, ex52, o1⟩ : RowP w2.heap.size 9 1 n' (lw.flatMap fun x : ByteArray => [Value.string x]) (fun A c => .tuple #[.agg #[.slice A n' c], .agg #[.int .i64 base, .int .i64 size, .int .i64 head, .int .i64 tlo], .bool bo]) u (a.tmps.getD 52 undef) := hl 52 (by kernel_rfl)
      have e52 := gd ex52
      go_simp
      exact hK _ _ (Below.refl _ _) (by intro d hd; cases hd; exact ⟨A1, c1, rfl, o1⟩)
    refine allStep_cons (stepS_plain hGk hSk hBB hJk (by kernel_rfl) rfl ?_) ?_
    · intro a u hb hz hj hl hp K Q hK
      obtain ⟨A1, c1, ex42, o1⟩ : RowP w2.heap.size 9 1 n' (lw.flatMap fun x : ByteArray => [Value.string x]) (fun A c => .tuple #[.agg #[.slice A n' c], .agg #[.int .i64 base, .int .i64 size, .int .i64 head, .int .i64 tlo], .bool bo]) u (a.tmps.getD 42 undef) := hl 42 (by kernel_rfl)
      have e42 := gd ex42
      go_simp
      exact hK _ _ (Below.refl _ _) (by intro d hd; cases hd; exact ⟨A1, c1, rfl, o1⟩)
    refine allStep_cons (stepS_plain hGk hSk hBB hJk (by kernel_rfl) rfl ?_) ?_
    · intro a u hb hz hj hl hp K Q hK
      obtain ⟨A1, c1, ex42, o1⟩ : RowP w2.heap.size 9 1 n' (lw.flatMap fun x : ByteArray => [Value.string x]) (fun A c => .tuple #[.agg #[.slice A n' c], .agg #[.int .i64 base, .int .i64 size, .int .i64 head, .int .i64 tlo], .bool bo]) u (a.tmps.getD 42 undef) := hl 42 (by kernel_rfl)
      have e42 := gd ex42
      go_simp
      exact hK _ _ (Below.refl _ _) (by intro d hd; cases hd; exact rfl)
    refine allStep_cons (stepS_plain hGk hSk hBB hJk (by kernel_rfl) rfl ?_) ?_
    · intro a u hb hz hj hl hp K Q hK
      obtain ⟨A1, c1, ex42, o1⟩ : RowP w2.heap.size 9 1 n' (lw.flatMap fun x : ByteArray => [Value.string x]) (fun A c => .tuple #[.agg #[.slice A n' c], .agg #[.int .i64 base, .int .i64 size, .int .i64 head, .int .i64 tlo], .bool bo]) u (a.tmps.getD 42 undef) := hl 42 (by kernel_rfl)
      have e42 := gd ex42
      go_simp
      exact hK _ _ (Below.refl _ _) (by intro d hd; cases hd; exact rfl)
    refine allStep_cons (stepS_plain hGk hSk hBB hJk (by kernel_rfl) rfl ?_) ?_
    · intro a u hb hz hj hl hp K Q hK
      go_simp
      exact hK _ _ (by go_grown) (by intro d hd; cases hd; exact BoxP.new _ _ [.slice none 0 0] (by omega) rfl)
    refine allStep_cons (stepS_plain hGk hSk hBB hJk (by kernel_rfl) rfl ?_) ?_
    · intro a u hb hz hj hl hp K Q hK
      go_simp
      exact hK _ _ (by go_grown) (by intro d hd; cases hd; exact BoxP.new _ _ [.int .i64 0, .int .i64 0, .int .i64 0, .int .i64 0] (by omega) rfl)
    refine allStep_cons (stepS_store (Chg w2.heap.size 32) (fun _ _ hc hb => hc.below' (by omega) hb) (fun _ _ hc => hc.size) (hold_rel ?_) ?_ ?_ rfl rfl ?_) ?_
    · intro p hp
      simp only [List.mem_cons, List.not_mem_nil, or_false] at hp
      rcases hp with rfl | rfl | rfl | rfl | rfl | rfl | rfl | rfl | rfl | rfl | rfl | rfl | rfl | rfl | rfl | rfl | rfl
      all_goals (intro u u' v hb hv; first | exact hv | exact BoxP.chg hv hb | exact RowP.chg hv hb (by decide))
    · intro s hs hne u u' hb
      simp only [List.mem_cons, List.not_mem_nil, or_false] at hs
      rcases hs with rfl | rfl
      all_goals first | exact absurd (by rfl) hne | (refine ⟨fun h => ?_, fun _ h => ?_⟩ <;> first | exact h | exact StoP.chg h hb (by decide) | exact StoR.chg h hb (by decide) (by decide) | exact Blk.chgL h hb (by omega) | exact StaR.chgL h hb (by omega) (by decide))
    · intro u u' hb hj
      exact trivial
    · intro a u hb hz hj hl hp K Q hK
      obtain ⟨b, exb, hB, zs, hzl, hbk⟩ : BoxP w2.heap.size 32 1 u (a.tmps.getD 12 undef) := hl 12 (by kernel_rfl)
      have e12 := gd exb
      obtain ⟨A2, c2, ex53, o2⟩ : RowP w2.heap.size 9 1 n' (lw.flatMap fun x : ByteArray => [Value.string x]) (fun A c => .agg #[.slice A n' c]) u (a.tmps.getD 53 undef) := hl 53 (by kernel_rfl)
      have e53 := gd ex53
      obtain ⟨z0, rfl⟩ : ∃ z0, zs = [z0] := (by match zs, hzl with | [z0], _ => exact ⟨_, rfl⟩)
      have hlt := hbk.lt
      have g0 : u.cell? ⟨b, 0, none⟩ = some z0 := (hbk.cell 0).trans rfl
      have f0 := hbk.frozen 0
      go_simp
      refine hK undef _ ((Chg.refl _ _ _).set hbk hB 0 _) (fun s hs he => ?_)
      simp only [List.mem_cons, List.not_mem_nil, or_false] at hs
      rcases hs with rfl | rfl
      · exact ⟨b, A2, c2, exb, hB, (hbk.set_ 0 _), own_chg o2 ((Chg.refl _ _ _).set hbk hB 0 _) (by decide)⟩
      · exact absurd (show (17 : Nat) = 16 from he) (by decide)
    refine allStep_cons (stepS_store (Chg w2.heap.size 56) (fun _ _ hc hb => hc.below' (by omega) hb) (fun _ _ hc => hc.size) (hold_rel ?_) ?_ ?_ rfl rfl ?_) ?_
    · intro p hp
      simp only [List.mem_cons, List.not_mem_nil, or_false] at hp
      rcases hp with rfl | rfl | rfl | rfl | rfl | rfl | rfl | rfl | rfl | rfl | rfl | rfl | rfl | rfl | rfl | rfl | rfl
      all_goals (intro u u' v hb hv; first | exact hv | exact BoxP.chg hv hb | exact RowP.chg hv hb (by decide))
    · intro s hs hne u u' hb
      simp only [List.mem_cons, List.not_mem_nil, or_false] at hs
      rcases hs with rfl | rfl
      all_goals first | exact absurd (by rfl) hne | (refine ⟨fun h => ?_, fun _ h => ?_⟩ <;> first | exact h | exact StoP.chg h hb (by decide) | exact StoR.chg h hb (by decide) (by decide) | exact Blk.chgL h hb (by omega) | exact StaR.chgL h hb (by omega) (by decide))
    · intro u u' hb hj
      exact trivial
    · intro a u hb hz hj hl hp K Q hK
      obtain ⟨b, exb, hB, zs, hzl, hbk⟩ : BoxP w2.heap.size 56 4 u (a.tmps.getD 13 undef) := hl 13 (by kernel_rfl)
      have e13 := gd exb
      have e54 : a.tmps[54]?.getD undef = .agg #[.int .i64 base, .int .i64 size, .int .i64 head, .int .i64 tlo] := gd (hl 54 (by kernel_rfl))
      obtain ⟨z0, z1, z2, z3, rfl⟩ : ∃ z0 z1 z2 z3, zs = [z0, z1, z2, z3] := (by match zs, hzl with | [z0, z1, z2, z3], _ => exact ⟨_, _, _, _, rfl⟩)
      have hlt := hbk.lt
      have g0 : u.cell? ⟨b, 0, none⟩ = some z0 := (hbk.cell 0).trans rfl
      have f0 := hbk.frozen 0
      have g1 : u.cell? ⟨b, 1, none⟩ = some z1 := (hbk.cell 1).trans rfl
      have f1 := hbk.frozen 1
      have g2 : u.cell? ⟨b, 2, none⟩ = some z2 := (hbk.cell 2).trans rfl
      have f2 := hbk.frozen 2
      have g3 : u.cell? ⟨b, 3, none⟩ = some z3 := (hbk.cell 3).trans rfl
      have f3 := hbk.frozen 3
      go_simp
      refine hK undef _ (((((Chg.refl _ _ _).set hbk hB 0 _).set (hbk.set_ 0 _) hB 1 _).set ((hbk.set_ 0 _).set_ 1 _) hB 2 _).set (((hbk.set_ 0 _).set_ 1 _).set_ 2 _) hB 3 _) (fun s hs he => ?_)
      simp only [List.mem_cons, List.not_mem_nil, or_false] at hs
      rcases hs with rfl | rfl
      · exact absurd (show (16 : Nat) = 17 from he) (by decide)
      · exact ⟨b, exb, hB, ((((hbk.set_ 0 _).set_ 1 _).set_ 2 _).set_ 3 _)⟩
    refine allStep_cons (stepS_plain hGk hSk hBB hJk (by kernel_rfl) rfl ?_) ?_
    · intro a u hb hz hj hl hp K Q hK
      have e55 : a.tmps[55]?.getD undef = .bool bo := gd (hl 55 (by kernel_rfl))
      go_simp
      exact hK _ _ (Below.refl _ _) (by intro d hd; cases hd; exact rfl)
    exact allStep_nil
  intro xT w3 hb hz hj hL hSt
  have fx14 : xT 14 = .bool bo := hL _ (List.mem_of_getElem? (i := 16) rfl)
  obtain ⟨bk_2, A_v, c_v, fx12, lo2, hk2, o_v⟩ : StoR w2.heap.size 32 9 1 n' (lw.flatMap fun x : ByteArray => [Value.string x]) (fun A c => [.slice A n' c]) w3 (xT 12) := hSt _ (List.mem_of_getElem? (i := 0) rfl)
  obtain ⟨bk_3, fx13, lo3, hk3⟩ : StoP w2.heap.size 56 [.int .i64 base, .int .i64 size, .int .i64 head, .int .i64 tlo] w3 (xT 13) := hSt _ (List.mem_of_getElem? (i := 1) rfl)
  simp only [List.map, putAll, fx14, fx12, fx13]
  have bl2 := hk2.lt
  have bx2_0 : w3.cell? ⟨bk_2, 0, none⟩ = some (.slice A_v n' c_v) := (hk2.cell 0).trans rfl
  have bl3 := hk3.lt
  have bx3_0 : w3.cell? ⟨bk_3, 0, none⟩ = some (.int .i64 base) := (hk3.cell 0).trans rfl
  have bx3_1 : w3.cell? ⟨bk_3, 1, none⟩ = some (.int .i64 size) := (hk3.cell 1).trans rfl
  have bx3_2 : w3.cell? ⟨bk_3, 2, none⟩ = some (.int .i64 head) := (hk3.cell 2).trans rfl
  have bx3_3 : w3.cell? ⟨bk_3, 3, none⟩ = some (.int .i64 tlo) := (hk3.cell 3).trans rfl
  have k3 : Below w.heap.size w w3 := ext_step k2 (by omega) hb
  have p3 := hb.size
  replace bx0_0 := ccell hb _ _ _ bx0_0
  replace bx1_0 := ccell hb _ _ _ bx1_0
  replace bx1_1 := ccell hb _ _ _ bx1_1
  replace bx1_2 := ccell hb _ _ _ bx1_2
  replace bx1_3 := ccell hb _ _ _ bx1_3
  have bl0 := Nat.lt_of_lt_of_le bl0 hb.size
  have bl1 := Nat.lt_of_lt_of_le bl1 hb.size
  replace r_a := r_a.below (hb.mono (by omega))
  replace r_b := r_b.below (hb.mono (by omega))
  replace r_p := r_p.below (hb.mono (by omega))
  have nb_v_2 := own_ty o_v hk2 (by decide)
  have nb_v_3 := own_ty o_v hk3 (by decide)
  have r_v := Reads.of_own o_v
  have u_v := fun k hk => (o_v.lt k hk).2
  clear hL hSt hb hz fx14 fx12 fx13 hk2 hk3
  go_wp2_with fail
  refine (toMappingS_c _ _ _ l _ hn_a hs_a (r_a.more (by omega))).mono ?_
  rintro e w4 ⟨g_x, rfl, hg_x, b_x, hb⟩
  have k4 : Below w.heap.size w w4 := ext_step k3 (by omega) hb
  have p4 := hb.size
  replace bx0_0 := ccell hb _ _ _ bx0_0
  replace bx1_0 := ccell hb _ _ _ bx1_0
  replace bx1_1 := ccell hb _ _ _ bx1_1
  replace bx1_2 := ccell hb _ _ _ bx1_2
  replace bx1_3 := ccell hb _ _ _ bx1_3
  replace bx2_0 := ccell hb _ _ _ bx2_0
  replace bx3_0 := ccell hb _ _ _ bx3_0
  replace bx3_1 := ccell hb _ _ _ bx3_1
  replace bx3_2 := ccell hb _ _ _ bx3_2
  replace bx3_3 := ccell hb _ _ _ bx3_3
  have bl0 := Nat.lt_of_lt_of_le bl0 hb.size
  have bl1 := Nat.lt_of_lt_of_le bl1 hb.size
  have bl2 := Nat.lt_of_lt_of_le bl2 hb.size
  have bl3 := Nat.lt_of_lt_of_le bl3 hb.size
  replace r_a := r_a.below (hb.mono (by omega))
  replace r_b := r_b.below (hb.mono (by omega))
  replace r_p := r_p.below (hb.mono (by omega))
  replace r_v := r_v.below (hb.mono (by omega))
  replace o_v := own_ext o_v hb
  have r_x := b_x.reads (size := 4) (n := n) (by rw [flatMap_len _ 4 (fun _ => rfl), hn_a])
  have o_x := b_x.own (base := w3.heap.size) (size := 4) (n := n) hg_x (by rw [flatMap_len _ 4 (fun _ => rfl), hn_a]) (by unfold maxLen; omega) rfl
  have u_x := fun k hk => (o_x.lt k hk).2
  clear hb
  go_wp2_with fail
  refine (toMemory_c _ _ _ l' _ hn_b hs_b (r_b.more (by omega))).mono ?_
  rintro e w5 ⟨g_y, rfl, hg_y, b_y, hb⟩
  have k5 : Below w.heap.size w w5 := ext_step k4 (by omega) hb
  have p5 := hb.size
  replace bx0_0 := ccell hb _ _ _ bx0_0
  replace bx1_0 := ccell hb _ _ _ bx1_0
  replace bx1_1 := ccell hb _ _ _ bx1_1
  replace bx1_2 := ccell hb _ _ _ bx1_2
  replace bx1_3 := ccell hb _ _ _ bx1_3
  replace bx2_0 := ccell hb _ _ _ bx2_0
  replace bx3_0 := ccell hb _ _ _ bx3_0
  replace bx3_1 := ccell hb _ _ _ bx3_1
  replace bx3_2 := ccell hb _ _ _ bx3_2
  replace bx3_3 := ccell hb _ _ _ bx3_3
  have bl0 := Nat.lt_of_lt_of_le bl0 hb.size
  have bl1 := Nat.lt_of_lt_of_le bl1 hb.size
  have bl2 := Nat.lt_of_lt_of_le bl2 hb.size
  have bl3 := Nat.lt_of_lt_of_le bl3 hb.size
  replace r_a := r_a.below (hb.mono (by omega))
  replace r_b := r_b.below (hb.mono (by omega))
  replace r_p := r_p.below (hb.mono (by omega))
  replace r_v := r_v.below (hb.mono (by omega))
  replace o_v := own_ext o_v hb
  replace r_x := r_x.below (hb.mono (by omega))
  replace o_x := own_ext o_x hb
  have r_y := b_y.reads (size := 1) (n := n') (by rw [flatMap_len _ 1 (fun _ => rfl), hn_b])
  have o_y := b_y.own (base := w4.heap.size) (size := 1) (n := n') hg_y (by rw [flatMap_len _ 1 (fun _ => rfl), hn_b]) (by unfold maxLen; omega) rfl
  have u_y := fun k hk => (o_y.lt k hk).2
  clear hb
  go_wp2_with fail
  have hb : Below w5.heap.size w5 (w5.alloc (.cells #[.slice (some ⟨g_y, 0, none⟩) n' n'] 32)) := by go_grown
  have bx4_0 : (w5.alloc (.cells #[.slice (some ⟨g_y, 0, none⟩) n' n'] 32)).cell? ⟨w5.heap.size, 0, none⟩ = some (.slice (some ⟨g_y, 0, none⟩) n' n') := by simp [go_sem]
  have bl4 : w5.heap.size < (w5.alloc (.cells #[.slice (some ⟨g_y, 0, none⟩) n' n'] 32)).heap.size := by go_size
  generalize hW0 : (w5.alloc (.cells #[.slice (some ⟨g_y, 0, none⟩) n' n'] 32)) = w6 at *
  clear hW0
  have k6 : Below w.heap.size w w6 := ext_step k5 (by omega) hb
  have p6 := hb.size
  replace bx0_0 := ccell hb _ _ _ bx0_0
  replace bx1_0 := ccell hb _ _ _ bx1_0
  replace bx1_1 := ccell hb _ _ _ bx1_1
  replace bx1_2 := ccell hb _ _ _ bx1_2
  replace bx1_3 := ccell hb _ _ _ bx1_3
  replace bx2_0 := ccell hb _ _ _ bx2_0
  replace bx3_0 := ccell hb _ _ _ bx3_0
  replace bx3_1 := ccell hb _ _ _ bx3_1
  replace bx3_2 := ccell hb _ _ _ bx3_2
  replace bx3_3 := ccell hb _ _ _ bx3_3
  have bl0 := Nat.lt_of_lt_of_le bl0 hb.size
  have bl1 := Nat.lt_of_lt_of_le bl1 hb.size
  have bl2 := Nat.lt_of_lt_of_le bl2 hb.size
  have bl3 := Nat.lt_of_lt_of_le bl3 hb.size
  replace r_a := r_a.below (hb.mono (by omega))
  replace r_b := r_b.below (hb.mono (by omega))
  replace r_p := r_p.below (hb.mono (by omega))
  replace r_v := r_v.below (hb.mono (by omega))
  replace o_v := own_ext o_v hb
  replace r_x := r_x.below (hb.mono (by omega))
  replace o_x := own_ext o_x hb
  replace r_y := r_y.below (hb.mono (by omega))
  replace o_y := own_ext o_y hb
  skip
  clear hb
  refine (toStringS_c _ _ _ l3 _ hn_p hs_p (r_p.more (by omega))).mono ?_
  rintro e w7 ⟨g_q, rfl, hg_q, b_q, hb⟩
  have k7 : Below w.heap.size w w7 := ext_step k6 (by omega) hb
  have p7 := hb.size
  replace bx0_0 := ccell hb _ _ _ bx0_0
  replace bx1_0 := ccell hb _ _ _ bx1_0
  replace bx1_1 := ccell hb _ _ _ bx1_1
  replace bx1_2 := ccell hb _ _ _ bx1_2
  replace bx1_3 := ccell hb _ _ _ bx1_3
  replace bx2_0 := ccell hb _ _ _ bx2_0
  replace bx3_0 := ccell hb _ _ _ bx3_0
  replace bx3_1 := ccell hb _ _ _ bx3_1
  replace bx3_2 := ccell hb _ _ _ bx3_2
  replace bx3_3 := ccell hb _ _ _ bx3_3
  replace bx4_0 := ccell hb _ _ _ bx4_0
  have bl0 := Nat.lt_of_lt_of_le bl0 hb.size
  have bl1 := Nat.lt_of_lt_of_le bl1 hb.size
  have bl2 := Nat.lt_of_lt_of_le bl2 hb.size
  have bl3 := Nat.lt_of_lt_of_le bl3 hb.size
  have bl4 := Nat.lt_of_lt_of_le bl4 hb.size
  replace r_a := r_a.below (hb.mono (by omega))
  replace r_b := r_b.below (hb.mono (by omega))
  replace r_p := r_p.below (hb.mono (by omega))
  replace r_v := r_v.below (hb.mono (by omega))
  replace o_v := own_ext o_v hb
  replace r_x := r_x.below (hb.mono (by omega))
  replace o_x := own_ext o_x hb
  replace r_y := r_y.below (hb.mono (by omega))
  replace o_y := own_ext o_y hb
  have r_q := b_q.reads (size := 1) (n := n3) (by rw [flatMap_len _ 1 (fun _ => rfl), hn_p])
  have o_q := b_q.own (base := w6.heap.size) (size := 1) (n := n3) hg_q (by rw [flatMap_len _ 1 (fun _ => rfl), hn_p]) (by unfold maxLen; omega) rfl
  have u_q := fun k hk => (o_q.lt k hk).2
  clear hb
  go_wp2_with fail
  have hBB : w7.heap.size ≤ w7.heap.size := by omega
  refine wp_region_slotsS (w7.heap.size) [(63, fun _ v => v = .slice (some ⟨g_x, 0, none⟩) n n), (64, fun _ v => v = .agg #[.slice (some ⟨g_y, 0, none⟩) n' n']), (65, fun _ v => v = .int .i64 d), (66, fun _ v => v = .agg #[.int .i64 base, .int .i64 size, .int .i64 head, .int .i64 tail]), (67, fun _ v => v = .agg #[.int .i64 base, .int .i64 size, .int .i64 head, .int .i64 tail]), (68, fun _ v => v = .slice (some ⟨g_q, 0, none⟩) n3 n3), (69, RowP w7.heap.size 9 1 n' (lw.flatMap fun x : ByteArray => [Value.string x]) (fun A c => .tuple #[.agg #[.slice A n' c], .agg #[.int .i64 base, .int .i64 size, .int .i64 head, .int .i64 tlo], .bool bo])), (62, RowP w7.heap.size 9 1 n' (lw.flatMap fun x : ByteArray => [Value.string x]) (fun A c => .tuple #[.agg #[.slice A n' c], .agg #[.int .i64 base, .int .i64 size, .int .i64 head, .int .i64 tlo], .bool bo])), (70, RowP w7.heap.size 9 1 n' (lw.flatMap fun x : ByteArray => [Value.string x]) (fun A c => .agg #[.slice A n' c])), (71, fun _ v => v = .agg #[.int .i64 base, .int .i64 size, .int .i64 head, .int .i64 tlo]), (72, fun _ v => v = .bool bo), (18, BoxP w7.heap.size 32 1), (19, BoxP w7.heap.size 56 4), (20, fun _ v => v = .bool bo)] [⟨13, 18, fun _ => True, StoR w7.heap.size 32 9 1 n' (lw.flatMap fun x : ByteArray => [Value.string x]) (fun A c => [.slice A n' c])⟩, ⟨14, 19, fun _ => True, StoP w7.heap.size 56 [.int .i64 base, .int .i64 size, .int .i64 head, .int .i64 tlo]⟩] (fun _ => True) (by kernel_rfl) hBB (by kernel_rfl) (by kernel_rfl) (by kernel_rfl) (by kernel_rfl) ?_ ?_ ?_ ?_ ?_ ?_ ?_
  · intro p hp
    simp only [List.mem_cons, List.not_mem_nil, or_false] at hp
    rcases hp with rfl | rfl | rfl | rfl | rfl | rfl | rfl | rfl | rfl | rfl | rfl | rfl | rfl | rfl
    all_goals (intro u u' v hb hv; first | exact hv | exact BoxP.keep hv hb | exact RowP.keep hv hb)
  · intro s hs u u' hb
    simp only [List.mem_cons, List.not_mem_nil, or_false] at hs
    rcases hs with rfl | rfl
    all_goals (refine ⟨fun h => ?_, fun _ h => ?_⟩ <;> first | exact h | exact StoP.keep h hb | exact StoR.keep h hb | exact Blk.ext h hb | exact StaR.keep h hb)
  · intro s hs
    simp only [List.mem_cons, List.not_mem_nil, or_false] at hs
    rcases hs with rfl | rfl
    all_goals first | trivial
  · exact trivial
  · intro u u' hb hj
    exact trivial
  · intro hGk hSk hJk
    refine allStep_cons (stepS_plain hGk hSk hBB hJk (by kernel_rfl) rfl ?_) ?_
    · intro a u hb hz hj hl hp K Q hK
      have e15 : a.tmps[15]?.getD undef = .slice (some ⟨g_x, 0, none⟩) n n := gd (hl 15 (by kernel_rfl))
      go_simp
      exact hK _ _ (Below.refl _ _) (by intro d hd; cases hd; exact rfl)
    refine allStep_cons (stepS_plain hGk hSk hBB hJk (by kernel_rfl) rfl ?_) ?_
    · intro a u hb hz hj hl hp K Q hK
      have e16 : a.tmps[16]?.getD undef = .pointer (some ⟨w5.heap.size, 0, none⟩) := gd (hl 16 (by kernel_rfl))
      have bx4_0 := ccell hb _ _ _ bx4_0
      go_simp
      exact hK _ _ (Below.refl _ _) (by intro d hd; cases hd; exact rfl)
    refine allStep_cons (stepS_plain hGk hSk hBB hJk (by kernel_rfl) rfl ?_) ?_
    · intro a u hb hz hj hl hp K Q hK
      have e2 : a.tmps[2]?.getD undef = .int .i64 d := gd (hl 2 (by kernel_rfl))
      go_simp
      exact hK _ _ (Below.refl _ _) (by intro d hd; cases hd; exact rfl)
    refine allStep_cons (stepS_plain hGk hSk hBB hJk (by kernel_rfl) rfl ?_) ?_
    · intro a u hb hz hj hl hp K Q hK
      have e8 : a.tmps[8]?.getD undef = .pointer (some ⟨w.heap.size + 1, 0, none⟩) := gd (hl 8 (by kernel_rfl))
      have bx1_0 := ccell hb _ _ _ bx1_0
      have bx1_1 := ccell hb _ _ _ bx1_1
      have bx1_2 := ccell hb _ _ _ bx1_2
      have bx1_3 := ccell hb _ _ _ bx1_3
      go_simp
      exact hK _ _ (Below.refl _ _) (by intro d hd; cases hd; exact rfl)
    refine allStep_cons (stepS_plain hGk hSk hBB hJk (by kernel_rfl) rfl ?_) ?_
    · intro a u hb hz hj hl hp K Q hK
      have e66 : a.tmps[66]?.getD undef = .agg #[.int .i64 base, .int .i64 size, .int .i64 head, .int .i64 tail] := gd (hl 66 (by kernel_rfl))
      go_simp
      refine (toRing_c _ _ _ _ _).mono ?_
      rintro e u1 ⟨rfl, hb1⟩
      exact hK _ _ hb1 (by intro d hd; cases hd; exact rfl)
    refine allStep_cons (stepS_plain hGk hSk hBB hJk (by kernel_rfl) rfl ?_) ?_
    · intro a u hb hz hj hl hp K Q hK
      have e17 : a.tmps[17]?.getD undef = .slice (some ⟨g_q, 0, none⟩) n3 n3 := gd (hl 17 (by kernel_rfl))
      go_simp
      exact hK _ _ (Below.refl _ _) (by intro d hd; cases hd; exact rfl)
    refine allStep_cons (stepS_plain hGk hSk hBB hJk (by kernel_rfl) rfl ?_) ?_
    · intro a u hb hz hj hl hp K Q hK
      have e63 : a.tmps[63]?.getD undef = .slice (some ⟨g_x, 0, none⟩) n n := gd (hl 63 (by kernel_rfl))
      have e64 : a.tmps[64]?.getD undef = .agg #[.slice (some ⟨g_y, 0, none⟩) n' n'] := gd (hl 64 (by kernel_rfl))
      have e65 : a.tmps[65]?.getD undef = .int .i64 d := gd (hl 65 (by kernel_rfl))
      have e67 : a.tmps[67]?.getD undef = .agg #[.int .i64 base, .int .i64 size, .int .i64 head, .int .i64 tail] := gd (hl 67 (by kernel_rfl))
      have e68 : a.tmps[68]?.getD undef = .slice (some ⟨g_q, 0, none⟩) n3 n3 := gd (hl 68 (by kernel_rfl))
      go_simp
      refine (himpl _ _ _ _ _ _ _ hs_a hs_b hs_p ((r_x.below (hb.mono (by omega))).more (by omega)) ((r_y.below (hb.mono (by omega))).more (by omega)) ((r_q.below (hb.mono (by omega))).more (by omega))).mono ?_
      rintro e u1 ⟨A_g, c_g, rfl, o_g, hb1⟩
      exact hK _ _ hb1 (by intro d hd; cases hd; exact ⟨A_g, c_g, rfl, own_base o_g (by omega)⟩)
    refine allStep_cons (stepS_plain hGk hSk hBB hJk (by kernel_rfl) rfl ?_) ?_
    · intro a u hb hz hj hl hp K Q hK
      obtain ⟨A1, c1, ex69, o1⟩ : RowP w7.heap.size 9 1 n' (lw.flatMap fun x : ByteArray => [Value.string x]) (fun A c => .tuple #[.agg #[.slice A n' c], .agg #[.int .i64 base, .int .i64 size, .int .i64 head, .int .i64 tlo], .bool bo]) u (a.tmps.getD 69 undef) := hl 69 (by kernel_rfl)
      have e69 := gd ex69
      go_simp
      exact hK _ _ (Below.refl _ _) (by intro d hd; cases hd; exact ⟨A1, c1, rfl, o1⟩)
    refine allStep_cons (stepS_plain hGk hSk hBB hJk (by kernel_rfl) rfl ?_) ?_
    · intro a u hb hz hj hl hp K Q hK
      obtain ⟨A1, c1, ex62, o1⟩ : RowP w7.heap.size 9 1 n' (lw.flatMap fun x : ByteArray => [Value.string x]) (fun A c => .tuple #[.agg #[.slice A n' c], .agg #[.int .i64 base, .int .i64 size, .int .i64 head, .int .i64 tlo], .bool bo]) u (a.tmps.getD 62 undef) := hl 62 (by kernel_rfl)
      have e62 := gd ex62
      go_simp
      exact hK _ _ (Below.refl _ _) (by intro d hd; cases hd; exact ⟨A1, c1, rfl, o1⟩)
    refine allStep_cons (stepS_plain hGk hSk hBB hJk (by kernel_rfl) rfl ?_) ?_
    · intro a u hb hz hj hl hp K Q hK
      obtain ⟨A1, c1, ex62, o1⟩ : RowP w7.heap.size 9 1 n' (lw.flatMap fun x : ByteArray => [Value.string x]) (fun A c => .tuple #[.agg #[.slice A n' c], .agg #[.int .i64 base, .int .i64 size, .int .i64 head, .int .i64 tlo], .bool bo]) u (a.tmps.getD 62 undef) := hl 62 (by kernel_rfl)
      have e62 := gd ex62
      go_simp
      exact hK _ _ (Below.refl _ _) (by intro d hd; cases hd; exact rfl)
    refine allStep_cons (stepS_plain hGk hSk hBB hJk (by kernel_rfl) rfl ?_) ?_
    · intro a u hb hz hj hl hp K Q hK
      obtain ⟨A1, c1, ex62, o1⟩ : RowP w7.heap.size 9 1 n' (lw.flatMap fun x : ByteArray => [Value.string x]) (fun A c => .tuple #[.agg #[.slice A n' c], .agg #[.int .i64 base, .int .i64 size, .int .i64 head, .int .i64 tlo], .bool bo]) u (a.tmps.getD 62 undef) := hl 62 (by kernel_rfl)
      have e62 := gd ex62
      go_simp
      exact hK _ _ (Below.refl _ _) (by intro d hd; cases hd; exact rfl)
    refine allStep_cons (stepS_plain hGk hSk hBB hJk (by kernel_rfl) rfl ?_) ?_
    · intro a u hb hz hj hl hp K Q hK
      go_simp
      exact hK _ _ (by go_grown) (by intro d hd; cases hd; exact BoxP.new _ _ [.slice none 0 0] (by omega) rfl)
    refine allStep_cons (stepS_plain hGk hSk hBB hJk (by kernel_rfl) rfl ?_) ?_
    · intro a u hb hz hj hl hp K Q hK
      go_simp
      exact hK _ _ (by go_grown) (by intro d hd; cases hd; exact BoxP.new _ _ [.int .i64 0, .int .i64 0, .int .i64 0, .int .i64 0] (by omega) rfl)
    refine allStep_cons (stepS_store (Chg w7.heap.size 32) (fun _ _ hc hb => hc.below' (by omega) hb) (fun _ _ hc => hc.size) (hold_rel ?_) ?_ ?_ rfl rfl ?_) ?_
    · intro p hp
      simp only [List.mem_cons, List.not_mem_nil, or_false] at hp
      rcases hp with rfl | rfl | rfl | rfl | rfl | rfl | rfl | rfl | rfl | rfl | rfl | rfl | rfl | rfl
      all_goals (intro u u' v hb hv; first | exact hv | exact BoxP.chg hv hb | exact RowP.chg hv hb (by decide))
    · intro s hs hne u u' hb
      simp only [List.mem_cons, List.not_mem_nil, or_false] at hs
      rcases hs with rfl | rfl
      all_goals first | exact absurd (by rfl) hne | (refine ⟨fun h => ?_, fun _ h => ?_⟩ <;> first | exact h | exact StoP.chg h hb (by decide) | exact StoR.chg h hb (by decide) (by decide) | exact Blk.chgL h hb (by omega) | exact StaR.chgL h hb (by omega) (by decide))
    · intro u u' hb hj
      exact trivial
    · intro a u hb hz hj hl hp K Q hK
      obtain ⟨b, exb, hB, zs, hzl, hbk⟩ : BoxP w7.heap.size 32 1 u (a.tmps.getD 18 undef) := hl 18 (by kernel_rfl)
      have e18 := gd exb
      obtain ⟨A2, c2, ex70, o2⟩ : RowP w7.heap.size 9 1 n' (lw.flatMap fun x : ByteArray => [Value.string x]) (fun A c => .agg #[.slice A n' c]) u (a.tmps.getD 70 undef) := hl 70 (by kernel_rfl)
      have e70 := gd ex70
      obtain ⟨z0, rfl⟩ : ∃ z0, zs = [z0] := (by match zs, hzl with | [z0], _ => exact ⟨_, rfl⟩)
      have hlt := hbk.lt
      have g0 : u.cell? ⟨b, 0, none⟩ = some z0 := (hbk.cell 0).trans rfl
      have f0 := hbk.frozen 0
      go_simp
      refine hK undef _ ((Chg.refl _ _ _).set hbk hB 0 _) (fun s hs he => ?_)
      simp only [List.mem_cons, List.not_mem_nil, or_false] at hs
      rcases hs with rfl | rfl
      · exact ⟨b, A2, c2, exb, hB, (hbk.set_ 0 _), own_chg o2 ((Chg.refl _ _ _).set hbk hB 0 _) (by decide)⟩
      · exact absurd (show (14 : Nat) = 13 from he) (by decide)
    refine allStep_cons (stepS_store (Chg w7.heap.size 56) (fun _ _ hc hb => hc.below' (by omega) hb) (fun _ _ hc => hc.size) (hold_rel ?_) ?_ ?_ rfl rfl ?_) ?_
    · intro p hp
      simp only [List.mem_cons, List.not_mem_nil, or_false] at hp
      rcases hp with rfl | rfl | rfl | rfl | rfl | rfl | rfl | rfl | rfl | rfl | rfl | rfl | rfl | rfl
      all_goals (intro u u' v hb hv; first | exact hv | exact BoxP.chg hv hb | exact RowP.chg hv hb (by decide))
    · intro s hs hne u u' hb
      simp only [List.mem_cons, List.not_mem_nil, or_false] at hs
      rcases hs with rfl | rfl
      all_goals first | exact absurd (by rfl) hne | (refine ⟨fun h => ?_, fun _ h => ?_⟩ <;> first | exact h | exact StoP.chg h hb (by decide) | exact StoR.chg h hb (by decide) (by decide) | exact Blk.chgL h hb (by omega) | exact StaR.chgL h hb (by omega) (by decide))
    · intro u u' hb hj
      exact trivial
    · intro a u hb hz hj hl hp K Q hK
      obtain ⟨b, exb, hB, zs, hzl, hbk⟩ : BoxP w7.heap.size 56 4 u (a.tmps.getD 19 undef) := hl 19 (by kernel_rfl)
      have e19 := gd exb
      have e71 : a.tmps[71]?.getD undef = .agg #[.int .i64 base, .int .i64 size, .int .i64 head, .int .i64 tlo] := gd (hl 71 (by kernel_rfl))
      obtain ⟨z0, z1, z2, z3, rfl⟩ : ∃ z0 z1 z2 z3, zs = [z0, z1, z2, z3] := (by match zs, hzl with | [z0, z1, z2, z3], _ => exact ⟨_, _, _, _, rfl⟩)
      have hlt := hbk.lt
      have g0 : u.cell? ⟨b, 0, none⟩ = some z0 := (hbk.cell 0).trans rfl
      have f0 := hbk.frozen 0
      have g1 : u.cell? ⟨b, 1, none⟩ = some z1 := (hbk.cell 1).trans rfl
      have f1 := hbk.frozen 1
      have g2 : u.cell? ⟨b, 2, none⟩ = some z2 := (hbk.cell 2).trans rfl
      have f2 := hbk.frozen 2
      have g3 : u.cell? ⟨b, 3, none⟩ = some z3 := (hbk.cell 3).trans rfl
      have f3 := hbk.frozen 3
      go_simp
      refine hK undef _ (((((Chg.refl _ _ _).set hbk hB 0 _).set (hbk.set_ 0 _) hB 1 _).set ((hbk.set_ 0 _).set_ 1 _) hB 2 _).set (((hbk.set_ 0 _).set_ 1 _).set_ 2 _) hB 3 _) (fun s hs he => ?_)
      simp only [List.mem_cons, List.not_mem_nil, or_false] at hs
      rcases hs with rfl | rfl
      · exact absurd (show (13 : Nat) = 14 from he) (by decide)
      · exact ⟨b, exb, hB, ((((hbk.set_ 0 _).set_ 1 _).set_ 2 _).set_ 3 _)⟩
    refine allStep_cons (stepS_plain hGk hSk hBB hJk (by kernel_rfl) rfl ?_) ?_
    · intro a u hb hz hj hl hp K Q hK
      have e72 : a.tmps[72]?.getD undef = .bool bo := gd (hl 72 (by kernel_rfl))
      go_simp
      exact hK _ _ (Below.refl _ _) (by intro d hd; cases hd; exact rfl)
    exact allStep_nil
  intro xT w8 hb hz hj hL hSt
  have fx20 : xT 20 = .bool bo := hL _ (List.mem_of_getElem? (i := 13) rfl)
  obtain ⟨bk_5, A_g, c_g, fx18, lo5, hk5, o_g⟩ : StoR w7.heap.size 32 9 1 n' (lw.flatMap fun x : ByteArray => [Value.string x]) (fun A c => [.slice A n' c]) w8 (xT 18) := hSt _ (List.mem_of_getElem? (i := 0) rfl)
  obtain ⟨bk_6, fx19, lo6, hk6⟩ : StoP w7.heap.size 56 [.int .i64 base, .int .i64 size, .int .i64 head, .int .i64 tlo] w8 (xT 19) := hSt _ (List.mem_of_getElem? (i := 1) rfl)
  simp only [List.map, putAll, fx20, fx18, fx19]
  have bl5 := hk5.lt
  have bx5_0 : w8.cell? ⟨bk_5, 0, none⟩ = some (.slice A_g n' c_g) := (hk5.cell 0).trans rfl
  have bl6 := hk6.lt
  have bx6_0 : w8.cell? ⟨bk_6, 0, none⟩ = some (.int .i64 base) := (hk6.cell 0).trans rfl
  have bx6_1 : w8.cell? ⟨bk_6, 1, none⟩ = some (.int .i64 size) := (hk6.cell 1).trans rfl
  have bx6_2 : w8.cell? ⟨bk_6, 2, none⟩ = some (.int .i64 head) := (hk6.cell 2).trans rfl
  have bx6_3 : w8.cell? ⟨bk_6, 3, none⟩ = some (.int .i64 tlo) := (hk6.cell 3).trans rfl
  have k8 : Below w.heap.size w w8 := ext_step k7 (by omega) hb
  have p8 := hb.size
  replace bx0_0 := ccell hb _ _ _ bx0_0
  replace bx1_0 := ccell hb _ _ _ bx1_0
  replace bx1_1 := ccell hb _ _ _ bx1_1
  replace bx1_2 := ccell hb _ _ _ bx1_2
  replace bx1_3 := ccell hb _ _ _ bx1_3
  replace bx2_0 := ccell hb _ _ _ bx2_0
  replace bx3_0 := ccell hb _ _ _ bx3_0
  replace bx3_1 := ccell hb _ _ _ bx3_1
  replace bx3_2 := ccell hb _ _ _ bx3_2
  replace bx3_3 := ccell hb _ _ _ bx3_3
  replace bx4_0 := ccell hb _ _ _ bx4_0
  have bl0 := Nat.lt_of_lt_of_le bl0 hb.size
  have bl1 := Nat.lt_of_lt_of_le bl1 hb.size
  have bl2 := Nat.lt_of_lt_of_le bl2 hb.size
  have bl3 := Nat.lt_of_lt_of_le bl3 hb.size
  have bl4 := Nat.lt_of_lt_of_le bl4 hb.size
  replace r_a := r_a.below (hb.mono (by omega))
  replace r_b := r_b.below (hb.mono (by omega))
  replace r_p := r_p.below (hb.mono (by omega))
  replace r_v := r_v.below (hb.mono (by omega))
  replace o_v := own_ext o_v hb
  replace r_x := r_x.below (hb.mono (by omega))
  replace o_x := own_ext o_x hb
  replace r_y := r_y.below (hb.mono (by omega))
  replace o_y := own_ext o_y hb
  replace r_q := r_q.below (hb.mono (by omega))
  replace o_q := own_ext o_q hb
  have nb_g_5 := own_ty o_g hk5 (by decide)
  have nb_g_6 := own_ty o_g hk6 (by decide)
  have r_g := Reads.of_own o_g
  have u_g := fun k hk => (o_g.lt k hk).2
  clear hL hSt hb hz fx20 fx18 fx19 hk5 hk6
  go_wp2_with fail
  refine (eqMemory_c _ _ _ _ _ lw _ hn_v (by omega) (r_g.more (by omega)) (r_v.more (by omega))).mono ?_
  rintro e w9 ⟨rfl, hb⟩
  have k9 : Below w.heap.size w w9 := ext_step k8 (by omega) hb
  have p9 := hb.size
  replace bx0_0 := ccell hb _ _ _ bx0_0
  replace bx1_0 := ccell hb _ _ _ bx1_0
  replace bx1_1 := ccell hb _ _ _ bx1_1
  replace bx1_2 := ccell hb _ _ _ bx1_2
  replace bx1_3 := ccell hb _ _ _ bx1_3
  replace bx2_0 := ccell hb _ _ _ bx2_0
  replace bx3_0 := ccell hb _ _ _ bx3_0
  replace bx3_1 := ccell hb _ _ _ bx3_1
  replace bx3_2 := ccell hb _ _ _ bx3_2
  replace bx3_3 := ccell hb _ _ _ bx3_3
  replace bx4_0 := ccell hb _ _ _ bx4_0
  replace bx5_0 := ccell hb _ _ _ bx5_0
  replace bx6_0 := ccell hb _ _ _ bx6_0
  replace bx6_1 := ccell hb _ _ _ bx6_1
  replace bx6_2 := ccell hb _ _ _ bx6_2
  replace bx6_3 := ccell hb _ _ _ bx6_3
  have bl0 := Nat.lt_of_lt_of_le bl0 hb.size
  have bl1 := Nat.lt_of_lt_of_le bl1 hb.size
  have bl2 := Nat.lt_of_lt_of_le bl2 hb.size
  have bl3 := Nat.lt_of_lt_of_le bl3 hb.size
  have bl4 := Nat.lt_of_lt_of_le bl4 hb.size
  have bl5 := Nat.lt_of_lt_of_le bl5 hb.size
  have bl6 := Nat.lt_of_lt_of_le bl6 hb.size
  replace r_a := r_a.below (hb.mono (by omega))
  replace r_b := r_b.below (hb.mono (by omega))
  replace r_p := r_p.below (hb.mono (by omega))
  replace r_v := r_v.below (hb.mono (by omega))
  replace o_v := own_ext o_v hb
  replace r_x := r_x.below (hb.mono (by omega))
  replace o_x := own_ext o_x hb
  replace r_y := r_y.below (hb.mono (by omega))
  replace o_y := own_ext o_y hb
  replace r_q := r_q.below (hb.mono (by omega))
  replace o_q := own_ext o_q hb
  replace r_g := r_g.below (hb.mono (by omega))
  replace o_g := own_ext o_g hb
  clear hb
  go_wp2_with fail
  refine (eqRing_c _ _ _ _ _).mono ?_
  rintro e w10 ⟨rfl, hb⟩
  have k10 : Below w.heap.size w w10 := ext_step k9 (by omega) hb
  have p10 := hb.size
  replace bx0_0 := ccell hb _ _ _ bx0_0
  replace bx1_0 := ccell hb _ _ _ bx1_0
  replace bx1_1 := ccell hb _ _ _ bx1_1
  replace bx1_2 := ccell hb _ _ _ bx1_2
  replace bx1_3 := ccell hb _ _ _ bx1_3
  replace bx2_0 := ccell hb _ _ _ bx2_0
  replace bx3_0 := ccell hb _ _ _ bx3_0
  replace bx3_1 := ccell hb _ _ _ bx3_1
  replace bx3_2 := ccell hb _ _ _ bx3_2
  replace bx3_3 := ccell hb _ _ _ bx3_3
  replace bx4_0 := ccell hb _ _ _ bx4_0
  replace bx5_0 := ccell hb _ _ _ bx5_0
  replace bx6_0 := ccell hb _ _ _ bx6_0
  replace bx6_1 := ccell hb _ _ _ bx6_1
  replace bx6_2 := ccell hb _ _ _ bx6_2
  replace bx6_3 := ccell hb _ _ _ bx6_3
  have bl0 := Nat.lt_of_lt_of_le bl0 hb.size
  have bl1 := Nat.lt_of_lt_of_le bl1 hb.size
  have bl2 := Nat.lt_of_lt_of_le bl2 hb.size
  have bl3 := Nat.lt_of_lt_of_le bl3 hb.size
  have bl4 := Nat.lt_of_lt_of_le bl4 hb.size
  have bl5 := Nat.lt_of_lt_of_le bl5 hb.size
  have bl6 := Nat.lt_of_lt_of_le bl6 hb.size
  replace r_a := r_a.below (hb.mono (by omega))
  replace r_b := r_b.below (hb.mono (by omega))
  replace r_p := r_p.below (hb.mono (by omega))
  replace r_v := r_v.below (hb.mono (by omega))
  replace o_v := own_ext o_v hb
  replace r_x := r_x.below (hb.mono (by omega))
  replace o_x := own_ext o_x hb
  replace r_y := r_y.below (hb.mono (by omega))
  replace o_y := own_ext o_y hb
  replace r_q := r_q.below (hb.mono (by omega))
  replace o_q := own_ext o_q hb
  replace r_g := r_g.below (hb.mono (by omega))
  replace o_g := own_ext o_g hb
  clear hb
  go_wp2_with fail
  refine (toMappingS_c _ _ _ l _ hn_a hs_a (r_a.more (by omega))).mono ?_
  rintro e w11 ⟨g_z, rfl, hg_z, b_z, hb⟩
  have k11 : Below w.heap.size w w11 := ext_step k10 (by omega) hb
  have p11 := hb.size
  replace bx0_0 := ccell hb _ _ _ bx0_0
  replace bx1_0 := ccell hb _ _ _ bx1_0
  replace bx1_1 := ccell hb _ _ _ bx1_1
  replace bx1_2 := ccell hb _ _ _ bx1_2
  replace bx1_3 := ccell hb _ _ _ bx1_3
  replace bx2_0 := ccell hb _ _ _ bx2_0
  replace bx3_0 := ccell hb _ _ _ bx3_0
  replace bx3_1 := ccell hb _ _ _ bx3_1
  replace bx3_2 := ccell hb _ _ _ bx3_2
  replace bx3_3 := ccell hb _ _ _ bx3_3
  replace bx4_0 := ccell hb _ _ _ bx4_0
  replace bx5_0 := ccell hb _ _ _ bx5_0
  replace bx6_0 := ccell hb _ _ _ bx6_0
  replace bx6_1 := ccell hb _ _ _ bx6_1
  replace bx6_2 := ccell hb _ _ _ bx6_2
  replace bx6_3 := ccell hb _ _ _ bx6_3
  have bl0 := Nat.lt_of_lt_of_le bl0 hb.size
  have bl1 := Nat.lt_of_lt_of_le bl1 hb.size
  have bl2 := Nat.lt_of_lt_of_le bl2 hb.size
  have bl3 := Nat.lt_of_lt_of_le bl3 hb.size
  have bl4 := Nat.lt_of_lt_of_le bl4 hb.size
  have bl5 := Nat.lt_of_lt_of_le bl5 hb.size
  have bl6 := Nat.lt_of_lt_of_le bl6 hb.size
  replace r_a := r_a.below (hb.mono (by omega))
  replace r_b := r_b.below (hb.mono (by omega))
  replace r_p := r_p.below (hb.mono (by omega))
  replace r_v := r_v.below (hb.mono (by omega))
  replace o_v := own_ext o_v hb
  replace r_x := r_x.below (hb.mono (by omega))
  replace o_x := own_ext o_x hb
  replace r_y := r_y.below (hb.mono (by omega))
  replace o_y := own_ext o_y hb
  replace r_q := r_q.below (hb.mono (by omega))
  replace o_q := own_ext o_q hb
  replace r_g := r_g.below (hb.mono (by omega))
  replace o_g := own_ext o_g hb
  have r_z := b_z.reads (size := 4) (n := n) (by rw [flatMap_len _ 4 (fun _ => rfl), hn_a])
  have o_z := b_z.own (base := w10.heap.size) (size := 4) (n := n) hg_z (by rw [flatMap_len _ 4 (fun _ => rfl), hn_a]) (by unfold maxLen; omega) rfl
  have u_z := fun k hk => (o_z.lt k hk).2
  clear hb
  go_wp2_with fail
  refine (eqMappingS_c _ _ _ _ _ l _ hn_a (by omega) (r_x.more (by omega)) (r_z.more (by omega))).mono ?_
  rintro e w12 ⟨rfl, hb⟩
  have k12 : Below w.heap.size w w12 := ext_step k11 (by omega) hb
  have p12 := hb.size
  replace bx0_0 := ccell hb _ _ _ bx0_0
  replace bx1_0 := ccell hb _ _ _ bx1_0
  replace bx1_1 := ccell hb _ _ _ bx1_1
  replace bx1_2 := ccell hb _ _ _ bx1_2
  replace bx1_3 := ccell hb _ _ _ bx1_3
  replace bx2_0 := ccell hb _ _ _ bx2_0
  replace bx3_0 := ccell hb _ _ _ bx3_0
  replace bx3_1 := ccell hb _ _ _ bx3_1
  replace bx3_2 := ccell hb _ _ _ bx3_2
  replace bx3_3 := ccell hb _ _ _ bx3_3
  replace bx4_0 := ccell hb _ _ _ bx4_0
  replace bx5_0 := ccell hb _ _ _ bx5_0
  replace bx6_0 := ccell hb _ _ _ bx6_0
  replace bx6_1 := ccell hb _ _ _ bx6_1
  replace bx6_2 := ccell hb _ _ _ bx6_2
  replace bx6_3 := ccell hb _ _ _ bx6_3
  have bl0 := Nat.lt_of_lt_of_le bl0 hb.size
  have bl1 := Nat.lt_of_lt_of_le bl1 hb.size
  have bl2 := Nat.lt_of_lt_of_le bl2 hb.size
  have bl3 := Nat.lt_of_lt_of_le bl3 hb.size
  have bl4 := Nat.lt_of_lt_of_le bl4 hb.size
  have bl5 := Nat.lt_of_lt_of_le bl5 hb.size
  have bl6 := Nat.lt_of_lt_of_le bl6 hb.size
  replace r_a := r_a.below (hb.mono (by omega))
  replace r_b := r_b.below (hb.mono (by omega))
  replace r_p := r_p.below (hb.mono (by omega))
  replace r_v := r_v.below (hb.mono (by omega))
  replace o_v := own_ext o_v hb
  replace r_x := r_x.below (hb.mono (by omega))
  replace o_x := own_ext o_x hb
  replace r_y := r_y.below (hb.mono (by omega))
  replace o_y := own_ext o_y hb
  replace r_q := r_q.below (hb.mono (by omega))
  replace o_q := own_ext o_q hb
  replace r_g := r_g.below (hb.mono (by omega))
  replace o_g := own_ext o_g hb
  replace r_z := r_z.below (hb.mono (by omega))
  replace o_z := own_ext o_z hb
  clear hb
  (try clear o_z)
  (try clear r_z)
  go_wp2_with fail
  go_region_held3 (fun w' => w'.cell? ⟨w5.heap.size, 0, none⟩ = some (.slice (some ⟨g_y, 0, none⟩) n' n') ∧ w'.cell? ⟨w.heap.size, 0, none⟩ = some (.slice A' n' c')) (exact ⟨bx4_0, bx0_0⟩)
    (first
      | (go_at_call 19; have hb : Below w12.heap.size w12 w12.drew := (Below.refl _ _).drew; generalize hW0 : w12.drew = w13 at *; clear hW0; have k13 : Below w.heap.size w w13 := ext_step k12 (by omega) hb; have p13 := hb.size; replace bx0_0 := ccell hb _ _ _ bx0_0; replace bx1_0 := ccell hb _ _ _ bx1_0; replace bx1_1 := ccell hb _ _ _ bx1_1; replace bx1_2 := ccell hb _ _ _ bx1_2; replace bx1_3 := ccell hb _ _ _ bx1_3; replace bx2_0 := ccell hb _ _ _ bx2_0; replace bx3_0 := ccell hb _ _ _ bx3_0; replace bx3_1 := ccell hb _ _ _ bx3_1; replace bx3_2 := ccell hb _ _ _ bx3_2; replace bx3_3 := ccell hb _ _ _ bx3_3; replace bx4_0 := ccell hb _ _ _ bx4_0; replace bx5_0 := ccell hb _ _ _ bx5_0; replace bx6_0 := ccell hb _ _ _ bx6_0; replace bx6_1 := ccell hb _ _ _ bx6_1; replace bx6_2 := ccell hb _ _ _ bx6_2; replace bx6_3 := ccell hb _ _ _ bx6_3; have bl0 := Nat.lt_of_lt_of_le bl0 hb.size; have bl1 := Nat.lt_of_lt_of_le bl1 hb.size; have bl2 := Nat.lt_of_lt_of_le bl2 hb.size; have bl3 := Nat.lt_of_lt_of_le bl3 hb.size; have bl4 := Nat.lt_of_lt_of_le bl4 hb.size; have bl5 := Nat.lt_of_lt_of_le bl5 hb.size; have bl6 := Nat.lt_of_lt_of_le bl6 hb.size; replace r_a := r_a.below (hb.mono (by omega)); replace r_b := r_b.below (hb.mono (by omega)); replace r_p := r_p.below (hb.mono (by omega)); replace r_v := r_v.below (hb.mono (by omega)); replace o_v := own_ext o_v hb; replace r_x := r_x.below (hb.mono (by omega)); replace o_x := own_ext o_x hb; replace r_y := r_y.below (hb.mono (by omega)); replace o_y := own_ext o_y hb; replace r_q := r_q.below (hb.mono (by omega)); replace o_q := own_ext o_q hb; replace r_g := r_g.below (hb.mono (by omega)); replace o_g := own_ext o_g hb; clear hb; refine (toMemory_c _ _ _ l' _ hn_b hs_b (r_b.more (by omega))).mono ?_; rintro e w14 ⟨g_z, rfl, hg_z, b_z, hb⟩; have k14 : Below w.heap.size w w14 := ext_step k13 (by omega) hb; have p14 := hb.size; replace bx0_0 := ccell hb _ _ _ bx0_0; replace bx1_0 := ccell hb _ _ _ bx1_0; replace bx1_1 := ccell hb _ _ _ bx1_1; replace bx1_2 := ccell hb _ _ _ bx1_2; replace bx1_3 := ccell hb _ _ _ bx1_3; replace bx2_0 := ccell hb _ _ _ bx2_0; replace bx3_0 := ccell hb _ _ _ bx3_0; replace bx3_1 := ccell hb _ _ _ bx3_1; replace bx3_2 := ccell hb _ _ _ bx3_2; replace bx3_3 := ccell hb _ _ _ bx3_3; replace bx4_0 := ccell hb _ _ _ bx4_0; replace bx5_0 := ccell hb _ _ _ bx5_0; replace bx6_0 := ccell hb _ _ _ bx6_0; replace bx6_1 := ccell hb _ _ _ bx6_1; replace bx6_2 := ccell hb _ _ _ bx6_2; replace bx6_3 := ccell hb _ _ _ bx6_3; have bl0 := Nat.lt_of_lt_of_le bl0 hb.size; have bl1 := Nat.lt_of_lt_of_le bl1 hb.size; have bl2 := Nat.lt_of_lt_of_le bl2 hb.size; have bl3 := Nat.lt_of_lt_of_le bl3 hb.size; have bl4 := Nat.lt_of_lt_of_le bl4 hb.size; have bl5 := Nat.lt_of_lt_of_le bl5 hb.size; have bl6 := Nat.lt_of_lt_of_le bl6 hb.size; replace r_a := r_a.below (hb.mono (by omega)); replace r_b := r_b.below (hb.mono (by omega)); replace r_p := r_p.below (hb.mono (by omega)); replace r_v := r_v.below (hb.mono (by omega)); replace o_v := own_ext o_v hb; replace r_x := r_x.below (hb.mono (by omega)); replace o_x := own_ext o_x hb; replace r_y := r_y.below (hb.mono (by omega)); replace o_y := own_ext o_y hb; replace r_q := r_q.below (hb.mono (by omega)); replace o_q := own_ext o_q hb; replace r_g := r_g.below (hb.mono (by omega)); replace o_g := own_ext o_g hb; have r_z := b_z.reads (size := 1) (n := n') (by rw [flatMap_len _ 1 (fun _ => rfl), hn_b]); have o_z := b_z.own (base := w13.heap.size) (size := 1) (n := n') hg_z (by rw [flatMap_len _ 1 (fun _ => rfl), hn_b]) (by unfold maxLen; omega) rfl; have u_z := fun k hk => (o_z.lt k hk).2; clear hb)
      | (go_at_call 22; refine (eqMemory_c _ _ _ _ _ l' _ hn_b (by omega) (r_y.more (by omega)) (r_z.more (by omega))).mono ?_; rintro e w15 ⟨rfl, hb⟩; have k15 : Below w.heap.size w w15 := ext_step k14 (by omega) hb; have p15 := hb.size; replace bx0_0 := ccell hb _ _ _ bx0_0; replace bx1_0 := ccell hb _ _ _ bx1_0; replace bx1_1 := ccell hb _ _ _ bx1_1; replace bx1_2 := ccell hb _ _ _ bx1_2; replace bx1_3 := ccell hb _ _ _ bx1_3; replace bx2_0 := ccell hb _ _ _ bx2_0; replace bx3_0 := ccell hb _ _ _ bx3_0; replace bx3_1 := ccell hb _ _ _ bx3_1; replace bx3_2 := ccell hb _ _ _ bx3_2; replace bx3_3 := ccell hb _ _ _ bx3_3; replace bx4_0 := ccell hb _ _ _ bx4_0; replace bx5_0 := ccell hb _ _ _ bx5_0; replace bx6_0 := ccell hb _ _ _ bx6_0; replace bx6_1 := ccell hb _ _ _ bx6_1; replace bx6_2 := ccell hb _ _ _ bx6_2; replace bx6_3 := ccell hb _ _ _ bx6_3; have bl0 := Nat.lt_of_lt_of_le bl0 hb.size; have bl1 := Nat.lt_of_lt_of_le bl1 hb.size; have bl2 := Nat.lt_of_lt_of_le bl2 hb.size; have bl3 := Nat.lt_of_lt_of_le bl3 hb.size; have bl4 := Nat.lt_of_lt_of_le bl4 hb.size; have bl5 := Nat.lt_of_lt_of_le bl5 hb.size; have bl6 := Nat.lt_of_lt_of_le bl6 hb.size; replace r_a := r_a.below (hb.mono (by omega)); replace r_b := r_b.below (hb.mono (by omega)); replace r_p := r_p.below (hb.mono (by omega)); replace r_v := r_v.below (hb.mono (by omega)); replace o_v := own_ext o_v hb; replace r_x := r_x.below (hb.mono (by omega)); replace o_x := own_ext o_x hb; replace r_y := r_y.below (hb.mono (by omega)); replace o_y := own_ext o_y hb; replace r_q := r_q.below (hb.mono (by omega)); replace o_q := own_ext o_q hb; replace r_g := r_g.below (hb.mono (by omega)); replace o_g := own_ext o_g hb; replace r_z := r_z.below (hb.mono (by omega)); replace o_z := own_ext o_z hb; clear hb))
  (try clear o_z)
  (try clear r_z)
  go_wp2_with fail
  refine (toStringS_c _ _ _ l3 _ hn_p hs_p (r_p.more (by omega))).mono ?_
  rintro e w16 ⟨g_z, rfl, hg_z, b_z, hb⟩
  have k16 : Below w.heap.size w w16 := ext_step k15 (by omega) hb
  have p16 := hb.size
  replace bx0_0 := ccell hb _ _ _ bx0_0
  replace bx1_0 := ccell hb _ _ _ bx1_0
  replace bx1_1 := ccell hb _ _ _ bx1_1
  replace bx1_2 := ccell hb _ _ _ bx1_2
  replace bx1_3 := ccell hb _ _ _ bx1_3
  replace bx2_0 := ccell hb _ _ _ bx2_0
  replace bx3_0 := ccell hb _ _ _ bx3_0
  replace bx3_1 := ccell hb _ _ _ bx3_1
  replace bx3_2 := ccell hb _ _ _ bx3_2
  replace bx3_3 := ccell hb _ _ _ bx3_3
  replace bx4_0 := ccell hb _ _ _ bx4_0
  replace bx5_0 := ccell hb _ _ _ bx5_0
  replace bx6_0 := ccell hb _ _ _ bx6_0
  replace bx6_1 := ccell hb _ _ _ bx6_1
  replace bx6_2 := ccell hb _ _ _ bx6_2
  replace bx6_3 := ccell hb _ _ _ bx6_3
  have bl0 := Nat.lt_of_lt_of_le bl0 hb.size
  have bl1 := Nat.lt_of_lt_of_le bl1 hb.size
  have bl2 := Nat.lt_of_lt_of_le bl2 hb.size
  have bl3 := Nat.lt_of_lt_of_le bl3 hb.size
  have bl4 := Nat.lt_of_lt_of_le bl4 hb.size
  have bl5 := Nat.lt_of_lt_of_le bl5 hb.size
  have bl6 := Nat.lt_of_lt_of_le bl6 hb.size
  replace r_a := r_a.below (hb.mono (by omega))
  replace r_b := r_b.below (hb.mono (by omega))
  replace r_p := r_p.below (hb.mono (by omega))
  replace r_v := r_v.below (hb.mono (by omega))
  replace o_v := own_ext o_v hb
  replace r_x := r_x.below (hb.mono (by omega))
  replace o_x := own_ext o_x hb
  replace r_y := r_y.below (hb.mono (by omega))
  replace o_y := own_ext o_y hb
  replace r_q := r_q.below (hb.mono (by omega))
  replace o_q := own_ext o_q hb
  replace r_g := r_g.below (hb.mono (by omega))
  replace o_g := own_ext o_g hb
  have r_z := b_z.reads (size := 1) (n := n3) (by rw [flatMap_len _ 1 (fun _ => rfl), hn_p])
  have o_z := b_z.own (base := w15.heap.size) (size := 1) (n := n3) hg_z (by rw [flatMap_len _ 1 (fun _ => rfl), hn_p]) (by unfold maxLen; omega) rfl
  have u_z := fun k hk => (o_z.lt k hk).2
  clear hb
  go_wp2_with fail
  refine (eqStringS_c _ _ _ _ _ l3 _ hn_p (by omega) (r_q.more (by omega)) (r_z.more (by omega))).mono ?_
  rintro e w17 ⟨rfl, hb⟩
  have k17 : Below w.heap.size w w17 := ext_step k16 (by omega) hb
  have p17 := hb.size
  replace bx0_0 := ccell hb _ _ _ bx0_0
  replace bx1_0 := ccell hb _ _ _ bx1_0
  replace bx1_1 := ccell hb _ _ _ bx1_1
  replace bx1_2 := ccell hb _ _ _ bx1_2
  replace bx1_3 := ccell hb _ _ _ bx1_3
  replace bx2_0 := ccell hb _ _ _ bx2_0
  replace bx3_0 := ccell hb _ _ _ bx3_0
  replace bx3_1 := ccell hb _ _ _ bx3_1
  replace bx3_2 := ccell hb _ _ _ bx3_2
  replace bx3_3 := ccell hb _ _ _ bx3_3
  replace bx4_0 := ccell hb _ _ _ bx4_0
  replace bx5_0 := ccell hb _ _ _ bx5_0
  replace bx6_0 := ccell hb _ _ _ bx6_0
  replace bx6_1 := ccell hb _ _ _ bx6_1
  replace bx6_2 := ccell hb _ _ _ bx6_2
  replace bx6_3 := ccell hb _ _ _ bx6_3
  have bl0 := Nat.lt_of_lt_of_le bl0 hb.size
  have bl1 := Nat.lt_of_lt_of_le bl1 hb.size
  have bl2 := Nat.lt_of_lt_of_le bl2 hb.size
  have bl3 := Nat.lt_of_lt_of_le bl3 hb.size
  have bl4 := Nat.lt_of_lt_of_le bl4 hb.size
  have bl5 := Nat.lt_of_lt_of_le bl5 hb.size
  have bl6 := Nat.lt_of_lt_of_le bl6 hb.size
  replace r_a := r_a.below (hb.mono (by omega))
  replace r_b := r_b.below (hb.mono (by omega))
  replace r_p := r_p.below (hb.mono (by omega))
  replace r_v := r_v.below (hb.mono (by omega))
  replace o_v := own_ext o_v hb
  replace r_x := r_x.below (hb.mono (by omega))
  replace o_x := own_ext o_x hb
  replace r_y := r_y.below (hb.mono (by omega))
  replace o_y := own_ext o_y hb
  replace r_q := r_q.below (hb.mono (by omega))
  replace o_q := own_ext o_q hb
  replace r_g := r_g.below (hb.mono (by omega))
  replace o_g := own_ext o_g hb
  replace r_z := r_z.below (hb.mono (by omega))
  replace o_z := own_ext o_z hb
  clear hb
  (try clear o_z)
  (try clear r_z)
  go_wp2_with fail
  refine (markMappingS_c _ _ _ _ _ _ _ o_x (by omega) (by omega) (by omega)).mono ?_
  rintro e w18 ⟨rfl, om, hg⟩
  have k18 : Below w.heap.size w w18 := below_app k17 (own_base o_x (by omega)) hg (by omega)
  have p18 := hg.size
  replace bx0_0 := cell_off hg bx0_0 (fun g h1 => by have := (o_x.lt g h1).1; have := u_x g h1; omega)
  replace bx1_0 := cell_off hg bx1_0 (fun g h1 => by have := (o_x.lt g h1).1; have := u_x g h1; omega)
  replace bx1_1 := cell_off hg bx1_1 (fun g h1 => by have := (o_x.lt g h1).1; have := u_x g h1; omega)
  replace bx1_2 := cell_off hg bx1_2 (fun g h1 => by have := (o_x.lt g h1).1; have := u_x g h1; omega)
  replace bx1_3 := cell_off hg bx1_3 (fun g h1 => by have := (o_x.lt g h1).1; have := u_x g h1; omega)
  replace bx2_0 := cell_off hg bx2_0 (fun g h1 => by have := (o_x.lt g h1).1; have := u_x g h1; omega)
  replace bx3_0 := cell_off hg bx3_0 (fun g h1 => by have := (o_x.lt g h1).1; have := u_x g h1; omega)
  replace bx3_1 := cell_off hg bx3_1 (fun g h1 => by have := (o_x.lt g h1).1; have := u_x g h1; omega)
  replace bx3_2 := cell_off hg bx3_2 (fun g h1 => by have := (o_x.lt g h1).1; have := u_x g h1; omega)
  replace bx3_3 := cell_off hg bx3_3 (fun g h1 => by have := (o_x.lt g h1).1; have := u_x g h1; omega)
  replace bx4_0 := cell_off hg bx4_0 (fun g h1 => by have := (o_x.lt g h1).1; have := u_x g h1; omega)
  replace bx5_0 := cell_off hg bx5_0 (fun g h1 => by have := (o_x.lt g h1).1; have := u_x g h1; omega)
  replace bx6_0 := cell_off hg bx6_0 (fun g h1 => by have := (o_x.lt g h1).1; have := u_x g h1; omega)
  replace bx6_1 := cell_off hg bx6_1 (fun g h1 => by have := (o_x.lt g h1).1; have := u_x g h1; omega)
  replace bx6_2 := cell_off hg bx6_2 (fun g h1 => by have := (o_x.lt g h1).1; have := u_x g h1; omega)
  replace bx6_3 := cell_off hg bx6_3 (fun g h1 => by have := (o_x.lt g h1).1; have := u_x g h1; omega)
  have bl0 := Nat.lt_of_lt_of_le bl0 hg.size
  have bl1 := Nat.lt_of_lt_of_le bl1 hg.size
  have bl2 := Nat.lt_of_lt_of_le bl2 hg.size
  have bl3 := Nat.lt_of_lt_of_le bl3 hg.size
  have bl4 := Nat.lt_of_lt_of_le bl4 hg.size
  have bl5 := Nat.lt_of_lt_of_le bl5 hg.size
  have bl6 := Nat.lt_of_lt_of_le bl6 hg.size
  replace r_a := r_a.grown hg (by omega) (fun g hg => Nat.le_trans (by omega) (o_x.lt g hg).1)
  replace r_b := r_b.grown hg (by omega) (fun g hg => Nat.le_trans (by omega) (o_x.lt g hg).1)
  replace r_p := r_p.grown hg (by omega) (fun g hg => Nat.le_trans (by omega) (o_x.lt g hg).1)
  replace o_v := own_far o_v hg (fun g h1 h2 => by have := u_v g h1; have := (o_x.lt g h2).1; omega)
  replace r_v := (Reads.of_own o_v)
  replace o_y := own_far o_y hg (fun g h1 h2 => by have := (o_y.lt g h1).1; have := u_x g h2; omega)
  replace r_y := (Reads.of_own o_y)
  replace o_q := own_far o_q hg (fun g h1 h2 => by have := (o_q.lt g h1).1; have := u_x g h2; omega)
  replace r_q := (Reads.of_own o_q)
  replace o_g := own_far o_g hg (fun g h1 h2 => by have := (o_g.lt g h1).1; have := u_x g h2; omega)
  replace r_g := (Reads.of_own o_g)
  replace o_x := om
  replace r_x := Reads.of_own o_x
  clear hg om
  (try clear o_x)
  (try clear r_x)
  go_wp2_with fail
  refine (markMemory_c _ _ _ _ _ _ _ o_y (by omega) (by omega) (by omega)).mono ?_
  rintro e w19 ⟨rfl, om, hg⟩
  have k19 : Below w.heap.size w w19 := below_app k18 (own_base o_y (by omega)) hg (by omega)
  have p19 := hg.size
  replace bx0_0 := cell_off hg bx0_0 (fun g h1 => by have := (o_y.lt g h1).1; have := u_y g h1; omega)
  replace bx1_0 := cell_off hg bx1_0 (fun g h1 => by have := (o_y.lt g h1).1; have := u_y g h1; omega)
  replace bx1_1 := cell_off hg bx1_1 (fun g h1 => by have := (o_y.lt g h1).1; have := u_y g h1; omega)
  replace bx1_2 := cell_off hg bx1_2 (fun g h1 => by have := (o_y.lt g h1).1; have := u_y g h1; omega)
  replace bx1_3 := cell_off hg bx1_3 (fun g h1 => by have := (o_y.lt g h1).1; have := u_y g h1; omega)
  replace bx2_0 := cell_off hg bx2_0 (fun g h1 => by have := (o_y.lt g h1).1; have := u_y g h1; omega)
  replace bx3_0 := cell_off hg bx3_0 (fun g h1 => by have := (o_y.lt g h1).1; have := u_y g h1; omega)
  replace bx3_1 := cell_off hg bx3_1 (fun g h1 => by have := (o_y.lt g h1).1; have := u_y g h1; omega)
  replace bx3_2 := cell_off hg bx3_2 (fun g h1 => by have := (o_y.lt g h1).1; have := u_y g h1; omega)
  replace bx3_3 := cell_off hg bx3_3 (fun g h1 => by have := (o_y.lt g h1).1; have := u_y g h1; omega)
  replace bx4_0 := cell_off hg bx4_0 (fun g h1 => by have := (o_y.lt g h1).1; have := u_y g h1; omega)
  replace bx5_0 := cell_off hg bx5_0 (fun g h1 => by have := (o_y.lt g h1).1; have := u_y g h1; omega)
  replace bx6_0 := cell_off hg bx6_0 (fun g h1 => by have := (o_y.lt g h1).1; have := u_y g h1; omega)
  replace bx6_1 := cell_off hg bx6_1 (fun g h1 => by have := (o_y.lt g h1).1; have := u_y g h1; omega)
  replace bx6_2 := cell_off hg bx6_2 (fun g h1 => by have := (o_y.lt g h1).1; have := u_y g h1; omega)
  replace bx6_3 := cell_off hg bx6_3 (fun g h1 => by have := (o_y.lt g h1).1; have := u_y g h1; omega)
  have bl0 := Nat.lt_of_lt_of_le bl0 hg.size
  have bl1 := Nat.lt_of_lt_of_le bl1 hg.size
  have bl2 := Nat.lt_of_lt_of_le bl2 hg.size
  have bl3 := Nat.lt_of_lt_of_le bl3 hg.size
  have bl4 := Nat.lt_of_lt_of_le bl4 hg.size
  have bl5 := Nat.lt_of_lt_of_le bl5 hg.size
  have bl6 := Nat.lt_of_lt_of_le bl6 hg.size
  replace r_a := r_a.grown hg (by omega) (fun g hg => Nat.le_trans (by omega) (o_y.lt g hg).1)
  replace r_b := r_b.grown hg (by omega) (fun g hg => Nat.le_trans (by omega) (o_y.lt g hg).1)
  replace r_p := r_p.grown hg (by omega) (fun g hg => Nat.le_trans (by omega) (o_y.lt g hg).1)
  replace o_v := own_far o_v hg (fun g h1 h2 => by have := u_v g h1; have := (o_y.lt g h2).1; omega)
  replace r_v := (Reads.of_own o_v)
  replace o_q := own_far o_q hg (fun g h1 h2 => by have := (o_q.lt g h1).1; have := u_y g h2; omega)
  replace r_q := (Reads.of_own o_q)
  replace o_g := own_far o_g hg (fun g h1 h2 => by have := (o_g.lt g h1).1; have := u_y g h2; omega)
  replace r_g := (Reads.of_own o_g)
  replace o_y := om
  replace r_y := Reads.of_own o_y
  clear hg om
  (try clear o_y)
  (try clear r_y)
  go_wp2_with fail
  refine (markStringS_c _ _ _ _ _ _ _ o_q (by omega) (by omega) (by omega)).mono ?_
  rintro e w20 ⟨rfl, om, hg⟩
  have k20 : Below w.heap.size w w20 := below_app k19 (own_base o_q (by omega)) hg (by omega)
  have p20 := hg.size
  replace bx0_0 := cell_off hg bx0_0 (fun g h1 => by have := (o_q.lt g h1).1; have := u_q g h1; omega)
  replace bx1_0 := cell_off hg bx1_0 (fun g h1 => by have := (o_q.lt g h1).1; have := u_q g h1; omega)
  replace bx1_1 := cell_off hg bx1_1 (fun g h1 => by have := (o_q.lt g h1).1; have := u_q g h1; omega)
  replace bx1_2 := cell_off hg bx1_2 (fun g h1 => by have := (o_q.lt g h1).1; have := u_q g h1; omega)
  replace bx1_3 := cell_off hg bx1_3 (fun g h1 => by have := (o_q.lt g h1).1; have := u_q g h1; omega)
  replace bx2_0 := cell_off hg bx2_0 (fun g h1 => by have := (o_q.lt g h1).1; have := u_q g h1; omega)
  replace bx3_0 := cell_off hg bx3_0 (fun g h1 => by have := (o_q.lt g h1).1; have := u_q g h1; omega)
  replace bx3_1 := cell_off hg bx3_1 (fun g h1 => by have := (o_q.lt g h1).1; have := u_q g h1; omega)
  replace bx3_2 := cell_off hg bx3_2 (fun g h1 => by have := (o_q.lt g h1).1; have := u_q g h1; omega)
  replace bx3_3 := cell_off hg bx3_3 (fun g h1 => by have := (o_q.lt g h1).1; have := u_q g h1; omega)
  replace bx4_0 := cell_off hg bx4_0 (fun g h1 => by have := (o_q.lt g h1).1; have := u_q g h1; omega)
  replace bx5_0 := cell_off hg bx5_0 (fun g h1 => by have := (o_q.lt g h1).1; have := u_q g h1; omega)
  replace bx6_0 := cell_off hg bx6_0 (fun g h1 => by have := (o_q.lt g h1).1; have := u_q g h1; omega)
  replace bx6_1 := cell_off hg bx6_1 (fun g h1 => by have := (o_q.lt g h1).1; have := u_q g h1; omega)
  replace bx6_2 := cell_off hg bx6_2 (fun g h1 => by have := (o_q.lt g h1).1; have := u_q g h1; omega)
  replace bx6_3 := cell_off hg bx6_3 (fun g h1 => by have := (o_q.lt g h1).1; have := u_q g h1; omega)
  have bl0 := Nat.lt_of_lt_of_le bl0 hg.size
  have bl1 := Nat.lt_of_lt_of_le bl1 hg.size
  have bl2 := Nat.lt_of_lt_of_le bl2 hg.size
  have bl3 := Nat.lt_of_lt_of_le bl3 hg.size
  have bl4 := Nat.lt_of_lt_of_le bl4 hg.size
  have bl5 := Nat.lt_of_lt_of_le bl5 hg.size
  have bl6 := Nat.lt_of_lt_of_le bl6 hg.size
  replace r_a := r_a.grown hg (by omega) (fun g hg => Nat.le_trans (by omega) (o_q.lt g hg).1)
  replace r_b := r_b.grown hg (by omega) (fun g hg => Nat.le_trans (by omega) (o_q.lt g hg).1)
  replace r_p := r_p.grown hg (by omega) (fun g hg => Nat.le_trans (by omega) (o_q.lt g hg).1)
  replace o_v := own_far o_v hg (fun g h1 h2 => by have := u_v g h1; have := (o_q.lt g h2).1; omega)
  replace r_v := (Reads.of_own o_v)
  replace o_g := own_far o_g hg (fun g h1 h2 => by have := (o_g.lt g h1).1; have := u_q g h2; omega)
  replace r_g := (Reads.of_own o_g)
  replace o_q := om
  replace r_q := Reads.of_own o_q
  clear hg om
  (try clear o_q)
  (try clear r_q)
  go_wp2_with fail
  refine (eqMemory_c _ _ _ _ _ lw _ hn_v (by omega) (r_g.more (by omega)) (r_v.more (by omega))).mono ?_
  rintro e w21 ⟨rfl, hb⟩
  have k21 : Below w.heap.size w w21 := ext_step k20 (by omega) hb
  have p21 := hb.size
  replace bx0_0 := ccell hb _ _ _ bx0_0
  replace bx1_0 := ccell hb _ _ _ bx1_0
  replace bx1_1 := ccell hb _ _ _ bx1_1
  replace bx1_2 := ccell hb _ _ _ bx1_2
  replace bx1_3 := ccell hb _ _ _ bx1_3
  replace bx2_0 := ccell hb _ _ _ bx2_0
  replace bx3_0 := ccell hb _ _ _ bx3_0
  replace bx3_1 := ccell hb _ _ _ bx3_1
  replace bx3_2 := ccell hb _ _ _ bx3_2
  replace bx3_3 := ccell hb _ _ _ bx3_3
  replace bx4_0 := ccell hb _ _ _ bx4_0
  replace bx5_0 := ccell hb _ _ _ bx5_0
  replace bx6_0 := ccell hb _ _ _ bx6_0
  replace bx6_1 := ccell hb _ _ _ bx6_1
  replace bx6_2 := ccell hb _ _ _ bx6_2
  replace bx6_3 := ccell hb _ _ _ bx6_3
  have bl0 := Nat.lt_of_lt_of_le bl0 hb.size
  have bl1 := Nat.lt_of_lt_of_le bl1 hb.size
  have bl2 := Nat.lt_of_lt_of_le bl2 hb.size
  have bl3 := Nat.lt_of_lt_of_le bl3 hb.size
  have bl4 := Nat.lt_of_lt_of_le bl4 hb.size
  have bl5 := Nat.lt_of_lt_of_le bl5 hb.size
  have bl6 := Nat.lt_of_lt_of_le bl6 hb.size
  replace r_a := r_a.below (hb.mono (by omega))
  replace r_b := r_b.below (hb.mono (by omega))
  replace r_p := r_p.below (hb.mono (by omega))
  replace r_v := r_v.below (hb.mono (by omega))
  replace o_v := own_ext o_v hb
  replace r_g := r_g.below (hb.mono (by omega))
  replace o_g := own_ext o_g hb
  clear hb
  go_wp2_with fail
  refine (eqRing_c _ _ _ _ _).mono ?_
  rintro e w22 ⟨rfl, hb⟩
  have k22 : Below w.heap.size w w22 := ext_step k21 (by omega) hb
  have p22 := hb.size
  replace bx0_0 := ccell hb _ _ _ bx0_0
  replace bx1_0 := ccell hb _ _ _ bx1_0
  replace bx1_1 := ccell hb _ _ _ bx1_1
  replace bx1_2 := ccell hb _ _ _ bx1_2
  replace bx1_3 := ccell hb _ _ _ bx1_3
  replace bx2_0 := ccell hb _ _ _ bx2_0
  replace bx3_0 := ccell hb _ _ _ bx3_0
  replace bx3_1 := ccell hb _ _ _ bx3_1
  replace bx3_2 := ccell hb _ _ _ bx3_2
  replace bx3_3 := ccell hb _ _ _ bx3_3
  replace bx4_0 := ccell hb _ _ _ bx4_0
  replace bx5_0 := ccell hb _ _ _ bx5_0
  replace bx6_0 := ccell hb _ _ _ bx6_0
  replace bx6_1 := ccell hb _ _ _ bx6_1
  replace bx6_2 := ccell hb _ _ _ bx6_2
  replace bx6_3 := ccell hb _ _ _ bx6_3
  have bl0 := Nat.lt_of_lt_of_le bl0 hb.size
  have bl1 := Nat.lt_of_lt_of_le bl1 hb.size
  have bl2 := Nat.lt_of_lt_of_le bl2 hb.size
  have bl3 := Nat.lt_of_lt_of_le bl3 hb.size
  have bl4 := Nat.lt_of_lt_of_le bl4 hb.size
  have bl5 := Nat.lt_of_lt_of_le bl5 hb.size
  have bl6 := Nat.lt_of_lt_of_le bl6 hb.size
  replace r_a := r_a.below (hb.mono (by omega))
  replace r_b := r_b.below (hb.mono (by omega))
  replace r_p := r_p.below (hb.mono (by omega))
  replace r_v := r_v.below (hb.mono (by omega))
  replace o_v := own_ext o_v hb
  replace r_g := r_g.below (hb.mono (by omega))
  replace o_g := own_ext o_g hb
  clear hb
  go_wp2_with fail
  refine (markMemory_c _ _ _ _ _ _ _ o_g (by omega) (by omega) (by omega)).mono ?_
  rintro e w23 ⟨rfl, om, hg⟩
  have k23 : Below w.heap.size w w23 := below_app k22 (own_base o_g (by omega)) hg (by omega)
  have p23 := hg.size
  replace bx0_0 := cell_off hg bx0_0 (fun g h1 => by have := (o_g.lt g h1).1; have := u_g g h1; have := nb_g_5 g h1; have := nb_g_6 g h1; omega)
  replace bx1_0 := cell_off hg bx1_0 (fun g h1 => by have := (o_g.lt g h1).1; have := u_g g h1; have := nb_g_5 g h1; have := nb_g_6 g h1; omega)
  replace bx1_1 := cell_off hg bx1_1 (fun g h1 => by have := (o_g.lt g h1).1; have := u_g g h1; have := nb_g_5 g h1; have := nb_g_6 g h1; omega)
  replace bx1_2 := cell_off hg bx1_2 (fun g h1 => by have := (o_g.lt g h1).1; have := u_g g h1; have := nb_g_5 g h1; have := nb_g_6 g h1; omega)
  replace bx1_3 := cell_off hg bx1_3 (fun g h1 => by have := (o_g.lt g h1).1; have := u_g g h1; have := nb_g_5 g h1; have := nb_g_6 g h1; omega)
  replace bx2_0 := cell_off hg bx2_0 (fun g h1 => by have := (o_g.lt g h1).1; have := u_g g h1; have := nb_g_5 g h1; have := nb_g_6 g h1; omega)
  replace bx3_0 := cell_off hg bx3_0 (fun g h1 => by have := (o_g.lt g h1).1; have := u_g g h1; have := nb_g_5 g h1; have := nb_g_6 g h1; omega)
  replace bx3_1 := cell_off hg bx3_1 (fun g h1 => by have := (o_g.lt g h1).1; have := u_g g h1; have := nb_g_5 g h1; have := nb_g_6 g h1; omega)
  replace bx3_2 := cell_off hg bx3_2 (fun g h1 => by have := (o_g.lt g h1).1; have := u_g g h1; have := nb_g_5 g h1; have := nb_g_6 g h1; omega)
  replace bx3_3 := cell_off hg bx3_3 (fun g h1 => by have := (o_g.lt g h1).1; have := u_g g h1; have := nb_g_5 g h1; have := nb_g_6 g h1; omega)
  replace bx4_0 := cell_off hg bx4_0 (fun g h1 => by have := (o_g.lt g h1).1; have := u_g g h1; have := nb_g_5 g h1; have := nb_g_6 g h1; omega)
  replace bx5_0 := cell_off hg bx5_0 (fun g h1 => by have := (o_g.lt g h1).1; have := u_g g h1; have := nb_g_5 g h1; have := nb_g_6 g h1; omega)
  replace bx6_0 := cell_off hg bx6_0 (fun g h1 => by have := (o_g.lt g h1).1; have := u_g g h1; have := nb_g_5 g h1; have := nb_g_6 g h1; omega)
  replace bx6_1 := cell_off hg bx6_1 (fun g h1 => by have := (o_g.lt g h1).1; have := u_g g h1; have := nb_g_5 g h1; have := nb_g_6 g h1; omega)
  replace bx6_2 := cell_off hg bx6_2 (fun g h1 => by have := (o_g.lt g h1).1; have := u_g g h1; have := nb_g_5 g h1; have := nb_g_6 g h1; omega)
  replace bx6_3 := cell_off hg bx6_3 (fun g h1 => by have := (o_g.lt g h1).1; have := u_g g h1; have := nb_g_5 g h1; have := nb_g_6 g h1; omega)
  have bl0 := Nat.lt_of_lt_of_le bl0 hg.size
  have bl1 := Nat.lt_of_lt_of_le bl1 hg.size
  have bl2 := Nat.lt_of_lt_of_le bl2 hg.size
  have bl3 := Nat.lt_of_lt_of_le bl3 hg.size
  have bl4 := Nat.lt_of_lt_of_le bl4 hg.size
  have bl5 := Nat.lt_of_lt_of_le bl5 hg.size
  have bl6 := Nat.lt_of_lt_of_le bl6 hg.size
  replace r_a := r_a.grown hg (by omega) (fun g hg => Nat.le_trans (by omega) (o_g.lt g hg).1)
  replace r_b := r_b.grown hg (by omega) (fun g hg => Nat.le_trans (by omega) (o_g.lt g hg).1)
  replace r_p := r_p.grown hg (by omega) (fun g hg => Nat.le_trans (by omega) (o_g.lt g hg).1)
  replace o_v := own_far o_v hg (fun g h1 h2 => by have := u_v g h1; have := (o_g.lt g h2).1; omega)
  replace r_v := (Reads.of_own o_v)
  replace o_g := om
  replace r_g := Reads.of_own o_g
  clear hg om
  go_wp2_with fail
  refine (heldMemory_c _ _ _ _ _ (r_g.more (by omega)) (by omega) (by omega) (by omega)).mono ?_
  rintro e w24 ⟨rfl, hb⟩
  have k24 : Below w.heap.size w w24 := ext_step k23 (by omega) hb
  have p24 := hb.size
  replace bx0_0 := ccell hb _ _ _ bx0_0
  replace bx1_0 := ccell hb _ _ _ bx1_0
  replace bx1_1 := ccell hb _ _ _ bx1_1
  replace bx1_2 := ccell hb _ _ _ bx1_2
  replace bx1_3 := ccell hb _ _ _ bx1_3
  replace bx2_0 := ccell hb _ _ _ bx2_0
  replace bx3_0 := ccell hb _ _ _ bx3_0
  replace bx3_1 := ccell hb _ _ _ bx3_1
  replace bx3_2 := ccell hb _ _ _ bx3_2
  replace bx3_3 := ccell hb _ _ _ bx3_3
  replace bx4_0 := ccell hb _ _ _ bx4_0
  replace bx5_0 := ccell hb _ _ _ bx5_0
  replace bx6_0 := ccell hb _ _ _ bx6_0
  replace bx6_1 := ccell hb _ _ _ bx6_1
  replace bx6_2 := ccell hb _ _ _ bx6_2
  replace bx6_3 := ccell hb _ _ _ bx6_3
  have bl0 := Nat.lt_of_lt_of_le bl0 hb.size
  have bl1 := Nat.lt_of_lt_of_le bl1 hb.size
  have bl2 := Nat.lt_of_lt_of_le bl2 hb.size
  have bl3 := Nat.lt_of_lt_of_le bl3 hb.size
  have bl4 := Nat.lt_of_lt_of_le bl4 hb.size
  have bl5 := Nat.lt_of_lt_of_le bl5 hb.size
  have bl6 := Nat.lt_of_lt_of_le bl6 hb.size
  replace r_a := r_a.below (hb.mono (by omega))
  replace r_b := r_b.below (hb.mono (by omega))
  replace r_p := r_p.below (hb.mono (by omega))
  replace r_v := r_v.below (hb.mono (by omega))
  replace o_v := own_ext o_v hb
  replace r_g := r_g.below (hb.mono (by omega))
  replace o_g := own_ext o_g hb
  clear hb
  go_wp2_with fail
  have hBB : w24.heap.size ≤ w24.heap.size := by omega
  refine wp_region_slotsS (w24.heap.size) [(143, fun _ v => v = .slice A n c), (144, RowP w24.heap.size 77 4 n (l.flatMap Mapping.cells) (fun A c => .slice A n c)), (145, fun _ v => v = .agg #[.slice A' n' c']), (146, RowP w24.heap.size 9 1 n' (l'.flatMap fun x : ByteArray => [Value.string x]) (fun A c => .agg #[.slice A n' c])), (147, fun _ v => v = .int .i64 d), (148, fun _ v => v = .agg #[.int .i64 base, .int .i64 size, .int .i64 head, .int .i64 tail]), (149, fun _ v => v = .agg #[.int .i64 base, .int .i64 size, .int .i64 head, .int .i64 tail]), (150, fun _ v => v = .slice A3 n3 c3), (151, RowP w24.heap.size 9 1 n3 (l3.flatMap fun x : ByteArray => [Value.string x]) (fun A c => .slice A n3 c)), (152, RowP w24.heap.size 9 1 n' (lw.flatMap fun x : ByteArray => [Value.string x]) (fun A c => .tuple #[.agg #[.slice A n' c], .agg #[.int .i64 base, .int .i64 size, .int .i64 head, .int .i64 tlo], .bool bo])), (142, RowP w24.heap.size 9 1 n' (lw.flatMap fun x : ByteArray => [Value.string x]) (fun A c => .tuple #[.agg #[.slice A n' c], .agg #[.int .i64 base, .int .i64 size, .int .i64 head, .int .i64 tlo], .bool bo])), (153, RowP w24.heap.size 9 1 n' (lw.flatMap fun x : ByteArray => [Value.string x]) (fun A c => .agg #[.slice A n' c])), (154, fun _ v => v = .agg #[.int .i64 base, .int .i64 size, .int .i64 head, .int .i64 tlo]), (155, fun _ v => v = .bool bo), (24, BoxP w24.heap.size 32 1), (25, BoxP w24.heap.size 56 4), (26, fun _ v => v = .bool bo)] [⟨16, 24, fun _ => True, StoR w24.heap.size 32 9 1 n' (lw.flatMap fun x : ByteArray => [Value.string x]) (fun A c => [.slice A n' c])⟩, ⟨17, 25, fun _ => True, StoP w24.heap.size 56 [.int .i64 base, .int .i64 size, .int .i64 head, .int .i64 tlo]⟩] (fun _ => True) (by kernel_rfl) hBB (by kernel_rfl) (by kernel_rfl) (by kernel_rfl) (by kernel_rfl) ?_ ?_ ?_ ?_ ?_ ?_ ?_
  · intro p hp
    simp only [List.mem_cons, List.not_mem_nil, or_false] at hp
    rcases hp with rfl | rfl | rfl | rfl | rfl | rfl | rfl | rfl | rfl | rfl | rfl | rfl | rfl | rfl | rfl | rfl | rfl
    all_goals (intro u u' v hb hv; first | exact hv | exact BoxP.keep hv hb | exact RowP.keep hv hb)
  · intro s hs u u' hb
    simp only [List.mem_cons, List.not_mem_nil, or_false] at hs
    rcases hs with rfl | rfl
    all_goals (refine ⟨fun h => ?_, fun _ h => ?_⟩ <;> first | exact h | exact StoP.keep h hb | exact StoR.keep h hb | exact Blk.ext h hb | exact StaR.keep h hb)
  · intro s hs
    simp only [List.mem_cons, List.not_mem_nil, or_false] at hs
    rcases hs with rfl | rfl
    all_goals first | trivial
  · exact trivial
  · intro u u' hb hj
    exact trivial
  · intro hGk hSk hJk
    refine allStep_cons (stepS_plain hGk hSk hBB hJk (by kernel_rfl) rfl ?_) ?_
    · intro a u hb hz hj hl hp K Q hK
      have e0 : a.tmps[0]?.getD undef = .slice A n c := gd (hl 0 (by kernel_rfl))
      go_simp
      exact hK _ _ (Below.refl _ _) (by intro d hd; cases hd; exact rfl)
    refine allStep_cons (stepS_plain hGk hSk hBB hJk (by kernel_rfl) rfl ?_) ?_
    · intro a u hb hz hj hl hp K Q hK
      have e143 : a.tmps[143]?.getD undef = .slice A n c := gd (hl 143 (by kernel_rfl))
      go_simp
      refine (toMappingS_c _ _ _ l _ hn_a hs_a ((r_a.below (hb.mono (by omega))).more (by omega))).mono ?_
      rintro e u1 ⟨g, rfl, hg, bb, hb1⟩
      exact hK _ _ hb1 (by intro d hd; cases hd; exact ⟨_, _, rfl, bb.own (base := w24.heap.size) (size := 4) (n := n) (by omega) (by rw [flatMap_len _ 4 (fun _ => rfl), hn_a]) (by unfold maxLen; omega) rfl⟩)
    refine allStep_cons (stepS_plain hGk hSk hBB hJk (by kernel_rfl) rfl ?_) ?_
    · intro a u hb hz hj hl hp K Q hK
      have e6 : a.tmps[6]?.getD undef = .pointer (some ⟨w.heap.size, 0, none⟩) := gd (hl 6 (by kernel_rfl))
      have bx0_0 := ccell hb _ _ _ bx0_0
      go_simp
      exact hK _ _ (Below.refl _ _) (by intro d hd; cases hd; exact rfl)
    refine allStep_cons (stepS_plain hGk hSk hBB hJk (by kernel_rfl) rfl ?_) ?_
    · intro a u hb hz hj hl hp K Q hK
      have e145 : a.tmps[145]?.getD undef = .agg #[.slice A' n' c'] := gd (hl 145 (by kernel_rfl))
      go_simp
      refine (toMemory_c _ _ _ l' _ hn_b hs_b ((r_b.below (hb.mono (by omega))).more (by omega))).mono ?_
      rintro e u1 ⟨g, rfl, hg, bb, hb1⟩
      exact hK _ _ hb1 (by intro d hd; cases hd; exact ⟨_, _, rfl, bb.own (base := w24.heap.size) (size := 1) (n := n') (by omega) (by rw [flatMap_len _ 1 (fun _ => rfl), hn_b]) (by unfold maxLen; omega) rfl⟩)
    refine allStep_cons (stepS_plain hGk hSk hBB hJk (by kernel_rfl) rfl ?_) ?_
    · intro a u hb hz hj hl hp K Q hK
      have e2 : a.tmps[2]?.getD undef = .int .i64 d := gd (hl 2 (by kernel_rfl))
      go_simp
      exact hK _ _ (Below.refl _ _) (by intro d hd; cases hd; exact rfl)
    refine allStep_cons (stepS_plain hGk hSk hBB hJk (by kernel_rfl) rfl ?_) ?_
    · intro a u hb hz hj hl hp K Q hK
      have e8 : a.tmps[8]?.getD undef = .pointer (some ⟨w.heap.size + 1, 0, none⟩) := gd (hl 8 (by kernel_rfl))
      have bx1_0 := ccell hb _ _ _ bx1_0
      have bx1_1 := ccell hb _ _ _ bx1_1
      have bx1_2 := ccell hb _ _ _ bx1_2
      have bx1_3 := ccell hb _ _ _ bx1_3
      go_simp
      exact hK _ _ (Below.refl _ _) (by intro d hd; cases hd; exact rfl)
    refine allStep_cons (stepS_plain hGk hSk hBB hJk (by kernel_rfl) rfl ?_) ?_
    · intro a u hb hz hj hl hp K Q hK
      have e148 : a.tmps[148]?.getD undef = .agg #[.int .i64 base, .int .i64 size, .int .i64 head, .int .i64 tail] := gd (hl 148 (by kernel_rfl))
      go_simp
      refine (toRing_c _ _ _ _ _).mono ?_
      rintro e u1 ⟨rfl, hb1⟩
      exact hK _ _ hb1 (by intro d hd; cases hd; exact rfl)
    refine allStep_cons (stepS_plain hGk hSk hBB hJk (by kernel_rfl) rfl ?_) ?_
    · intro a u hb hz hj hl hp K Q hK
      have e4 : a.tmps[4]?.getD undef = .slice A3 n3 c3 := gd (hl 4 (by kernel_rfl))
      go_simp
      exact hK _ _ (Below.refl _ _) (by intro d hd; cases hd; exact rfl)
    refine allStep_cons (stepS_plain hGk hSk hBB hJk (by kernel_rfl) rfl ?_) ?_
    · intro a u hb hz hj hl hp K Q hK
      have e150 : a.tmps[150]?.getD undef = .slice A3 n3 c3 := gd (hl 150 (by kernel_rfl))
      go_simp
      refine (toStringS_c _ _ _ l3 _ hn_p hs_p ((r_p.below (hb.mono (by omega))).more (by omega))).mono ?_
      rintro e u1 ⟨g, rfl, hg, bb, hb1⟩
      exact hK _ _ hb1 (by intro d hd; cases hd; exact ⟨_, _, rfl, bb.own (base := w24.heap.size) (size := 1) (n := n3) (by omega) (by rw [flatMap_len _ 1 (fun _ => rfl), hn_p]) (by unfold maxLen; omega) rfl⟩)
    refine allStep_cons (stepS_plain hGk hSk hBB hJk (by kernel_rfl) rfl ?_) ?_
    · intro a u hb hz hj hl hp K Q hK
      obtain ⟨A1, c1, ex144, o1⟩ : RowP w24.heap.size 77 4 n (l.flatMap Mapping.cells) (fun A c => .slice A n c) u (a.tmps.getD 144 undef) := hl 144 (by kernel_rfl)
      have e144 := gd ex144
      obtain ⟨A2, c2, ex146, o2⟩ : RowP w24.heap.size 9 1 n' (l'.flatMap fun x : ByteArray => [Value.string x]) (fun A c => .agg #[.slice A n' c]) u (a.tmps.getD 146 undef) := hl 146 (by kernel_rfl)
      have e146 := gd ex146
      have e147 : a.tmps[147]?.getD undef = .int .i64 d := gd (hl 147 (by kernel_rfl))
      have e149 : a.tmps[149]?.getD undef = .agg #[.int .i64 base, .int .i64 size, .int .i64 head, .int .i64 tail] := gd (hl 149 (by kernel_rfl))
      obtain ⟨A5, c5, ex151, o5⟩ : RowP w24.heap.size 9 1 n3 (l3.flatMap fun x : ByteArray => [Value.string x]) (fun A c => .slice A n3 c) u (a.tmps.getD 151 undef) := hl 151 (by kernel_rfl)
      have e151 := gd ex151
      go_simp
      refine (himpl _ _ _ _ _ _ _ hs_a hs_b hs_p (Reads.of_own o1) (Reads.of_own o2) (Reads.of_own o5)).mono ?_
      rintro e u1 ⟨A_h, c_h, rfl, o_h, hb1⟩
      exact hK _ _ hb1 (by intro d hd; cases hd; exact ⟨A_h, c_h, rfl, own_base o_h (by omega)⟩)
    refine allStep_cons (stepS_plain hGk hSk hBB hJk (by kernel_rfl) rfl ?_) ?_
    · intro a u hb hz hj hl hp K Q hK
      obtain ⟨A1, c1, ex152, o1⟩ : RowP w24.heap.size 9 1 n' (lw.flatMap fun x : ByteArray => [Value.string x]) (fun A c => .tuple #[.agg #[.slice A n' c], .agg #[.int .i64 base, .int .i64 size, .int .i64 head, .int .i64 tlo], .bool bo]) u (a.tmps.getD 152 undef) := hl 152 (by kernel_rfl)
      have e152 := gd ex152
      go_simp
      exact hK _ _ (Below.refl _ _) (by intro d hd; cases hd; exact ⟨A1, c1, rfl, o1⟩)
    refine allStep_cons (stepS_plain hGk hSk hBB hJk (by kernel_rfl) rfl ?_) ?_
    · intro a u hb hz hj hl hp K Q hK
      obtain ⟨A1, c1, ex142, o1⟩ : RowP w24.heap.size 9 1 n' (lw.flatMap fun x : ByteArray => [Value.string x]) (fun A c => .tuple #[.agg #[.slice A n' c], .agg #[.int .i64 base, .int .i64 size, .int .i64 head, .int .i64 tlo], .bool bo]) u (a.tmps.getD 142 undef) := hl 142 (by kernel_rfl)
      have e142 := gd ex142
      go_simp
      exact hK _ _ (Below.refl _ _) (by intro d hd; cases hd; exact ⟨A1, c1, rfl, o1⟩)
    refine allStep_cons (stepS_plain hGk hSk hBB hJk (by kernel_rfl) rfl ?_) ?_
    · intro a u hb hz hj hl hp K Q hK
      obtain ⟨A1, c1, ex142, o1⟩ : RowP w24.heap.size 9 1 n' (lw.flatMap fun x : ByteArray => [Value.string x]) (fun A c => .tuple #[.agg #[.slice A n' c], .agg #[.int .i64 base, .int .i64 size, .int .i64 head, .int .i64 tlo], .bool bo]) u (a.tmps.getD 142 undef) := hl 142 (by kernel_rfl)
      have e142 := gd ex142
      go_simp
      exact hK _ _ (Below.refl _ _) (by intro d hd; cases hd; exact rfl)
    refine allStep_cons (stepS_plain hGk hSk hBB hJk (by kernel_rfl) rfl ?_) ?_
    · intro a u hb hz hj hl hp K Q hK
      obtain ⟨A1, c1, ex142, o1⟩ : RowP w24.heap.size 9 1 n' (lw.flatMap fun x : ByteArray => [Value.string x]) (fun A c => .tuple #[.agg #[.slice A n' c], .agg #[.int .i64 base, .int .i64 size, .int .i64 head, .int .i64 tlo], .bool bo]) u (a.tmps.getD 142 undef) := hl 142 (by kernel_rfl)
      have e142 := gd ex142
      go_simp
      exact hK _ _ (Below.refl _ _) (by intro d hd; cases hd; exact rfl)
    refine allStep_cons (stepS_plain hGk hSk hBB hJk (by kernel_rfl) rfl ?_) ?_
    · intro a u hb hz hj hl hp K Q hK
      go_simp
      exact hK _ _ (by go_grown) (by intro d hd; cases hd; exact BoxP.new _ _ [.slice none 0 0] (by omega) rfl)
    refine allStep_cons (stepS_plain hGk hSk hBB hJk (by kernel_rfl) rfl ?_) ?_
    · intro a u hb hz hj hl hp K Q hK
      go_simp
      exact hK _ _ (by go_grown) (by intro d hd; cases hd; exact BoxP.new _ _ [.int .i64 0, .int .i64 0, .int .i64 0, .int .i64 0] (by omega) rfl)
    refine allStep_cons (stepS_store (Chg w24.heap.size 32) (fun _ _ hc hb => hc.below' (by omega) hb) (fun _ _ hc => hc.size) (hold_rel ?_) ?_ ?_ rfl rfl ?_) ?_
    · intro p hp
      simp only [List.mem_cons, List.not_mem_nil, or_false] at hp
      rcases hp with rfl | rfl | rfl | rfl | rfl | rfl | rfl | rfl | rfl | rfl | rfl | rfl | rfl | rfl | rfl | rfl | rfl
      all_goals (intro u u' v hb hv; first | exact hv | exact BoxP.chg hv hb | exact RowP.chg hv hb (by decide))
    · intro s hs hne u u' hb
      simp only [List.mem_cons, List.not_mem_nil, or_false] at hs
      rcases hs with rfl | rfl
      all_goals first | exact absurd (by rfl) hne | (refine ⟨fun h => ?_, fun _ h => ?_⟩ <;> first | exact h | exact StoP.chg h hb (by decide) | exact StoR.chg h hb (by decide) (by decide) | exact Blk.chgL h hb (by omega) | exact StaR.chgL h hb (by omega) (by decide))
    · intro u u' hb hj
      exact trivial
    · intro a u hb hz hj hl hp K Q hK
      obtain ⟨b, exb, hB, zs, hzl, hbk⟩ : BoxP w24.heap.size 32 1 u (a.tmps.getD 24 undef) := hl 24 (by kernel_rfl)
      have e24 := gd exb
      obtain ⟨A2, c2, ex153, o2⟩ : RowP w24.heap.size 9 1 n' (lw.flatMap fun x : ByteArray => [Value.string x]) (fun A c => .agg #[.slice A n' c]) u (a.tmps.getD 153 undef) := hl 153 (by kernel_rfl)
      have e153 := gd ex153
      obtain ⟨z0, rfl⟩ : ∃ z0, zs = [z0] := (by match zs, hzl with | [z0], _ => exact ⟨_, rfl⟩)
      have hlt := hbk.lt
      have g0 : u.cell? ⟨b, 0, none⟩ = some z0 := (hbk.cell 0).trans rfl
      have f0 := hbk.frozen 0
      go_simp
      refine hK undef _ ((Chg.refl _ _ _).set hbk hB 0 _) (fun s hs he => ?_)
      simp only [List.mem_cons, List.not_mem_nil, or_false] at hs
      rcases hs with rfl | rfl
      · exact ⟨b, A2, c2, exb, hB, (hbk.set_ 0 _), own_chg o2 ((Chg.refl _ _ _).set hbk hB 0 _) (by decide)⟩
      · exact absurd (show (17 : Nat) = 16 from he) (by decide)
    refine allStep_cons (stepS_store (Chg w24.heap.size 56) (fun _ _ hc hb => hc.below' (by omega) hb) (fun _ _ hc => hc.size) (hold_rel ?_) ?_ ?_ rfl rfl ?_) ?_
    · intro p hp
      simp only [List.mem_cons, List.not_mem_nil, or_false] at hp
      rcases hp with rfl | rfl | rfl | rfl | rfl | rfl | rfl | rfl | rfl | rfl | rfl | rfl | rfl | rfl | rfl | rfl | rfl
      all_goals (intro u u' v hb hv; first | exact hv | exact BoxP.chg hv hb | exact RowP.chg hv hb (by decide))
    · intro s hs hne u u' hb
      simp only [List.mem_cons, List.not_mem_nil, or_false] at hs
      rcases hs with rfl | rfl
      all_goals first | exact absurd (by rfl) hne | (refine ⟨fun h => ?_, fun _ h => ?_⟩ <;> first | exact h | exact StoP.chg h hb (by decide) | exact StoR.chg h hb (by decide) (by decide) | exact Blk.chgL h hb (by omega) | exact StaR.chgL h hb (by omega) (by decide))
    · intro u u' hb hj
      exact trivial
    · intro a u hb hz hj hl hp K Q hK
      obtain ⟨b, exb, hB, zs, hzl, hbk⟩ : BoxP w24.heap.size 56 4 u (a.tmps.getD 25 undef) := hl 25 (by kernel_rfl)
      have e25 := gd exb
      have e154 : a.tmps[154]?.getD undef = .agg #[.int .i64 base, .int .i64 size, .int .i64 head, .int .i64 tlo] := gd (hl 154 (by kernel_rfl))
      obtain ⟨z0, z1, z2, z3, rfl⟩ : ∃ z0 z1 z2 z3, zs = [z0, z1, z2, z3] := (by match zs, hzl with | [z0, z1, z2, z3], _ => exact ⟨_, _, _, _, rfl⟩)
      have hlt := hbk.lt
      have g0 : u.cell? ⟨b, 0, none⟩ = some z0 := (hbk.cell 0).trans rfl
      have f0 := hbk.frozen 0
      have g1 : u.cell? ⟨b, 1, none⟩ = some z1 := (hbk.cell 1).trans rfl
      have f1 := hbk.frozen 1
      have g2 : u.cell? ⟨b, 2, none⟩ = some z2 := (hbk.cell 2).trans rfl
      have f2 := hbk.frozen 2
      have g3 : u.cell? ⟨b, 3, none⟩ = some z3 := (hbk.cell 3).trans rfl
      have f3 := hbk.frozen 3
      go_simp
      refine hK undef _ (((((Chg.refl _ _ _).set hbk hB 0 _).set (hbk.set_ 0 _) hB 1 _).set ((hbk.set_ 0 _).set_ 1 _) hB 2 _).set (((hbk.set_ 0 _).set_ 1 _).set_ 2 _) hB 3 _) (fun s hs he => ?_)
      simp only [List.mem_cons, List.not_mem_nil, or_false] at hs
      rcases hs with rfl | rfl
      · exact absurd (show (16 : Nat) = 17 from he) (by decide)
      · exact ⟨b, exb, hB, ((((hbk.set_ 0 _).set_ 1 _).set_ 2 _).set_ 3 _)⟩
    refine allStep_cons (stepS_plain hGk hSk hBB hJk (by kernel_rfl) rfl ?_) ?_
    · intro a u hb hz hj hl hp K Q hK
      have e155 : a.tmps[155]?.getD undef = .bool bo := gd (hl 155 (by kernel_rfl))
      go_simp
      exact hK _ _ (Below.refl _ _) (by intro d hd; cases hd; exact rfl)
    exact allStep_nil
  intro xT w25 hb hz hj hL hSt
  have fx26 : xT 26 = .bool bo := hL _ (List.mem_of_getElem? (i := 16) rfl)
  obtain ⟨bk_7, A_h, c_h, fx24, lo7, hk7, o_h⟩ : StoR w24.heap.size 32 9 1 n' (lw.flatMap fun x : ByteArray => [Value.string x]) (fun A c => [.slice A n' c]) w25 (xT 24) := hSt _ (List.mem_of_getElem? (i := 0) rfl)
  obtain ⟨bk_8, fx25, lo8, hk8⟩ : StoP w24.heap.size 56 [.int .i64 base, .int .i64 size, .int .i64 head, .int .i64 tlo] w25 (xT 25) := hSt _ (List.mem_of_getElem? (i := 1) rfl)
  simp only [List.map, putAll, fx26, fx24, fx25]
  have bl7 := hk7.lt
  have bx7_0 : w25.cell? ⟨bk_7, 0, none⟩ = some (.slice A_h n' c_h) := (hk7.cell 0).trans rfl
  have bl8 := hk8.lt
  have bx8_0 : w25.cell? ⟨bk_8, 0, none⟩ = some (.int .i64 base) := (hk8.cell 0).trans rfl
  have bx8_1 : w25.cell? ⟨bk_8, 1, none⟩ = some (.int .i64 size) := (hk8.cell 1).trans rfl
  have bx8_2 : w25.cell? ⟨bk_8, 2, none⟩ = some (.int .i64 head) := (hk8.cell 2).trans rfl
  have bx8_3 : w25.cell? ⟨bk_8, 3, none⟩ = some (.int .i64 tlo) := (hk8.cell 3).trans rfl
  have k25 : Below w.heap.size w w25 := ext_step k24 (by omega) hb
  have p25 := hb.size
  replace bx0_0 := ccell hb _ _ _ bx0_0
  replace bx1_0 := ccell hb _ _ _ bx1_0
  replace bx1_1 := ccell hb _ _ _ bx1_1
  replace bx1_2 := ccell hb _ _ _ bx1_2
  replace bx1_3 := ccell hb _ _ _ bx1_3
  replace bx2_0 := ccell hb _ _ _ bx2_0
  replace bx3_0 := ccell hb _ _ _ bx3_0
  replace bx3_1 := ccell hb _ _ _ bx3_1
  replace bx3_2 := ccell hb _ _ _ bx3_2
  replace bx3_3 := ccell hb _ _ _ bx3_3
  replace bx4_0 := ccell hb _ _ _ bx4_0
  replace bx5_0 := ccell hb _ _ _ bx5_0
  replace bx6_0 := ccell hb _ _ _ bx6_0
  replace bx6_1 := ccell hb _ _ _ bx6_1
  replace bx6_2 := ccell hb _ _ _ bx6_2
  replace bx6_3 := ccell hb _ _ _ bx6_3
  have bl0 := Nat.lt_of_lt_of_le bl0 hb.size
  have bl1 := Nat.lt_of_lt_of_le bl1 hb.size
  have bl2 := Nat.lt_of_lt_of_le bl2 hb.size
  have bl3 := Nat.lt_of_lt_of_le bl3 hb.size
  have bl4 := Nat.lt_of_lt_of_le bl4 hb.size
  have bl5 := Nat.lt_of_lt_of_le bl5 hb.size
  have bl6 := Nat.lt_of_lt_of_le bl6 hb.size
  replace r_a := r_a.below (hb.mono (by omega))
  replace r_b := r_b.below (hb.mono (by omega))
  replace r_p := r_p.below (hb.mono (by omega))
  replace r_v := r_v.below (hb.mono (by omega))
  replace o_v := own_ext o_v hb
  replace r_g := r_g.below (hb.mono (by omega))
  replace o_g := own_ext o_g hb
  have nb_h_7 := own_ty o_h hk7 (by decide)
  have nb_h_8 := own_ty o_h hk8 (by decide)
  have r_h := Reads.of_own o_h
  have u_h := fun k hk => (o_h.lt k hk).2
  clear hL hSt hb hz fx26 fx24 fx25 hk7 hk8
  go_wp2_with fail
  refine (eqMemory_c _ _ _ _ _ lw _ hn_v (by omega) (r_h.more (by omega)) (r_v.more (by omega))).mono ?_
  rintro e w26 ⟨rfl, hb⟩
  have k26 : Below w.heap.size w w26 := ext_step k25 (by omega) hb
  have p26 := hb.size
  replace bx0_0 := ccell hb _ _ _ bx0_0
  replace bx1_0 := ccell hb _ _ _ bx1_0
  replace bx1_1 := ccell hb _ _ _ bx1_1
  replace bx1_2 := ccell hb _ _ _ bx1_2
  replace bx1_3 := ccell hb _ _ _ bx1_3
  replace bx2_0 := ccell hb _ _ _ bx2_0
  replace bx3_0 := ccell hb _ _ _ bx3_0
  replace bx3_1 := ccell hb _ _ _ bx3_1
  replace bx3_2 := ccell hb _ _ _ bx3_2
  replace bx3_3 := ccell hb _ _ _ bx3_3
  replace bx4_0 := ccell hb _ _ _ bx4_0
  replace bx5_0 := ccell hb _ _ _ bx5_0
  replace bx6_0 := ccell hb _ _ _ bx6_0
  replace bx6_1 := ccell hb _ _ _ bx6_1
  replace bx6_2 := ccell hb _ _ _ bx6_2
  replace bx6_3 := ccell hb _ _ _ bx6_3
  replace bx7_0 := ccell hb _ _ _ bx7_0
  replace bx8_0 := ccell hb _ _ _ bx8_0
  replace bx8_1 := ccell hb _ _ _ bx8_1
  replace bx8_2 := ccell hb _ _ _ bx8_2
  replace bx8_3 := ccell hb _ _ _ bx8_3
  have bl0 := Nat.lt_of_lt_of_le bl0 hb.size
  have bl1 := Nat.lt_of_lt_of_le bl1 hb.size
  have bl2 := Nat.lt_of_lt_of_le bl2 hb.size
  have bl3 := Nat.lt_of_lt_of_le bl3 hb.size
  have bl4 := Nat.lt_of_lt_of_le bl4 hb.size
  have bl5 := Nat.lt_of_lt_of_le bl5 hb.size
  have bl6 := Nat.lt_of_lt_of_le bl6 hb.size
  have bl7 := Nat.lt_of_lt_of_le bl7 hb.size
  have bl8 := Nat.lt_of_lt_of_le bl8 hb.size
  replace r_a := r_a.below (hb.mono (by omega))
  replace r_b := r_b.below (hb.mono (by omega))
  replace r_p := r_p.below (hb.mono (by omega))
  replace r_v := r_v.below (hb.mono (by omega))
  replace o_v := own_ext o_v hb
  replace r_g := r_g.below (hb.mono (by omega))
  replace o_g := own_ext o_g hb
  replace r_h := r_h.below (hb.mono (by omega))
  replace o_h := own_ext o_h hb
  clear hb
  go_wp2_with fail
  refine (eqRing_c _ _ _ _ _).mono ?_
  rintro e w27 ⟨rfl, hb⟩
  have k27 : Below w.heap.size w w27 := ext_step k26 (by omega) hb
  have p27 := hb.size
  replace bx0_0 := ccell hb _ _ _ bx0_0
  replace bx1_0 := ccell hb _ _ _ bx1_0
  replace bx1_1 := ccell hb _ _ _ bx1_1
  replace bx1_2 := ccell hb _ _ _ bx1_2
  replace bx1_3 := ccell hb _ _ _ bx1_3
  replace bx2_0 := ccell hb _ _ _ bx2_0
  replace bx3_0 := ccell hb _ _ _ bx3_0
  replace bx3_1 := ccell hb _ _ _ bx3_1
  replace bx3_2 := ccell hb _ _ _ bx3_2
  replace bx3_3 := ccell hb _ _ _ bx3_3
  replace bx4_0 := ccell hb _ _ _ bx4_0
  replace bx5_0 := ccell hb _ _ _ bx5_0
  replace bx6_0 := ccell hb _ _ _ bx6_0
  replace bx6_1 := ccell hb _ _ _ bx6_1
  replace bx6_2 := ccell hb _ _ _ bx6_2
  replace bx6_3 := ccell hb _ _ _ bx6_3
  replace bx7_0 := ccell hb _ _ _ bx7_0
  replace bx8_0 := ccell hb _ _ _ bx8_0
  replace bx8_1 := ccell hb _ _ _ bx8_1
  replace bx8_2 := ccell hb _ _ _ bx8_2
  replace bx8_3 := ccell hb _ _ _ bx8_3
  have bl0 := Nat.lt_of_lt_of_le bl0 hb.size
  have bl1 := Nat.lt_of_lt_of_le bl1 hb.size
  have bl2 := Nat.lt_of_lt_of_le bl2 hb.size
  have bl3 := Nat.lt_of_lt_of_le bl3 hb.size
  have bl4 := Nat.lt_of_lt_of_le bl4 hb.size
  have bl5 := Nat.lt_of_lt_of_le bl5 hb.size
  have bl6 := Nat.lt_of_lt_of_le bl6 hb.size
  have bl7 := Nat.lt_of_lt_of_le bl7 hb.size
  have bl8 := Nat.lt_of_lt_of_le bl8 hb.size
  replace r_a := r_a.below (hb.mono (by omega))
  replace r_b := r_b.below (hb.mono (by omega))
  replace r_p := r_p.below (hb.mono (by omega))
  replace r_v := r_v.below (hb.mono (by omega))
  replace o_v := own_ext o_v hb
  replace r_g := r_g.below (hb.mono (by omega))
  replace o_g := own_ext o_g hb
  replace r_h := r_h.below (hb.mono (by omega))
  replace o_h := own_ext o_h hb
  clear hb
  (try clear o_h)
  (try clear r_h)
  (try clear o_v)
  (try clear r_v)
  go_wp2_with fail
  refine (heldMemory_c _ _ _ _ _ (r_g.more (by omega)) (by omega) (by omega) (by omega)).mono ?_
  rintro e w28 ⟨rfl, hb⟩
  have k28 : Below w.heap.size w w28 := ext_step k27 (by omega) hb
  have p28 := hb.size
  replace bx0_0 := ccell hb _ _ _ bx0_0
  replace bx1_0 := ccell hb _ _ _ bx1_0
  replace bx1_1 := ccell hb _ _ _ bx1_1
  replace bx1_2 := ccell hb _ _ _ bx1_2
  replace bx1_3 := ccell hb _ _ _ bx1_3
  replace bx2_0 := ccell hb _ _ _ bx2_0
  replace bx3_0 := ccell hb _ _ _ bx3_0
  replace bx3_1 := ccell hb _ _ _ bx3_1
  replace bx3_2 := ccell hb _ _ _ bx3_2
  replace bx3_3 := ccell hb _ _ _ bx3_3
  replace bx4_0 := ccell hb _ _ _ bx4_0
  replace bx5_0 := ccell hb _ _ _ bx5_0
  replace bx6_0 := ccell hb _ _ _ bx6_0
  replace bx6_1 := ccell hb _ _ _ bx6_1
  replace bx6_2 := ccell hb _ _ _ bx6_2
  replace bx6_3 := ccell hb _ _ _ bx6_3
  replace bx7_0 := ccell hb _ _ _ bx7_0
  replace bx8_0 := ccell hb _ _ _ bx8_0
  replace bx8_1 := ccell hb _ _ _ bx8_1
  replace bx8_2 := ccell hb _ _ _ bx8_2
  replace bx8_3 := ccell hb _ _ _ bx8_3
  have bl0 := Nat.lt_of_lt_of_le bl0 hb.size
  have bl1 := Nat.lt_of_lt_of_le bl1 hb.size
  have bl2 := Nat.lt_of_lt_of_le bl2 hb.size
  have bl3 := Nat.lt_of_lt_of_le bl3 hb.size
  have bl4 := Nat.lt_of_lt_of_le bl4 hb.size
  have bl5 := Nat.lt_of_lt_of_le bl5 hb.size
  have bl6 := Nat.lt_of_lt_of_le bl6 hb.size
  have bl7 := Nat.lt_of_lt_of_le bl7 hb.size
  have bl8 := Nat.lt_of_lt_of_le bl8 hb.size
  replace r_a := r_a.below (hb.mono (by omega))
  replace r_b := r_b.below (hb.mono (by omega))
  replace r_p := r_p.below (hb.mono (by omega))
  replace r_g := r_g.below (hb.mono (by omega))
  replace o_g := own_ext o_g hb
  clear hb
  go_wp2
  go_ret
  exact ⟨rfl, k28⟩
end Go.Proofs.Ytjeenjblenpinaa
