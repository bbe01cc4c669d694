/- Contracts of RingPut: impl and spec. -/
import Derived.Test.YtnnlagmgdfhaiaaSlotAddr
import Derived.Test.YtnnlagmgdfhaiaaDmaPut
import Derived.Test.YtnnlagmgdfhaiaaDmaPutS
import Derived.Test.YtnnlagmgdfhaiaaSlots4
import Derived.Deep.RegionHeld3
namespace Go.Proofs.Ytnnlagmgdfhaiaa
set_option linter.unusedSimpArgs false
set_option linter.unusedVariables false
open Go.RowKit Go.ChangeShapes Go.WideShapes
section
variable (l : List Mapping) (pg : List ByteArray) (d base size head tail : Int) (s : ByteArray)
def rputB : Bool := !(freeI base size head tail == 0) && (decide (s.size = 16) && dmaOk l pg d (slotI base size head tail tail) 16 true)
def rputM : List ByteArray := if rputB l pg d base size head tail s then dmaW l pg d (slotI base size head tail tail) s true else pg
def rputT : Int := if rputB l pg d base size head tail s then (tail + 1) % (2 * size) else tail
end
section
variable {l : List Mapping} {pg : List ByteArray} {d base size head tail : Int} {s : ByteArray}
theorem put_no (h : rputB l pg d base size head tail s = false) : rputM l pg d base size head tail s = pg ∧ rputT l pg d base size head tail s = tail := by
  rw [rputM, rputT, h]; exact ⟨rfl, rfl⟩
theorem put_yes (h : rputB l pg d base size head tail s = true) : rputM l pg d base size head tail s = dmaW l pg d (slotI base size head tail tail) s true ∧ rputT l pg d base size head tail s = (tail + 1) % (2 * size) := by
  rw [rputM, rputT, h]; exact ⟨rfl, rfl⟩
theorem rputM_len : (rputM l pg d base size head tail s).length = pg.length := by
  unfold rputM; split
  · exact dmaW_len _ _ _ _ _ _
  · rfl
theorem freeI_ok (h : ¬ freeI base size head tail = 0) : ringB base size head tail = true := by
  unfold freeI at h
  split at h
  · assumption
  · exact absurd rfl h
theorem slotI_bd2 {count : Int} (h : ringB base size head tail = true) (h0 : 0 ≤ count) (h1 : count ≤ 9223372036854775807) : 0 ≤ slotI base size head tail count ∧ slotI base size head tail count ≤ 131184 := by
  obtain ⟨z1, z2, z3, z4, _⟩ := ringB_size h
  have m1 := Int.emod_nonneg count (show size ≠ 0 by omega)
  have m2 := Int.emod_lt_of_pos count (show 0 < size by omega)
  rw [slotI, h, show decide (0 ≤ count) = true from by simpa using h0, Bool.and_self, if_pos rfl]
  omega
end
set_option maxRecDepth 100000 in
set_option maxHeartbeats 2000000 in
theorem implRingPut_1 (A A' : Option Addr) (n c n' c' : Nat) (l : List Mapping) (pg : List ByteArray) (w : World) (hn_a : l.length = n) (hn_b : pg.length = n') (hs_a : n ≤ 1048576) (hs_b : n' ≤ 1048576) (r_a : Reads w w.heap.size 4 A n (l.flatMap Mapping.cells)) (r_b : Reads w w.heap.size 1 A' n' (pg.flatMap fun x : ByteArray => [Value.string x])) (d base size head tail : Int) (s : ByteArray) (hh : I64 head) (ht : I64 tail) (hsz : s.size ≤ 1048576) (hf2 : (freeI base size head tail == 0) = true) :
    Calls Try.prog 54 #[.slice A n c, .agg #[.slice A' n' c'], .int .i64 d, .agg #[.int .i64 base, .int .i64 size, .int .i64 head, .int .i64 tail], .string s] w fun e w' => ∃ A2 c2, e = .returned (.tuple #[.agg #[.slice A2 n' c2], .agg #[.int .i64 base, .int .i64 size, .int .i64 head, .int .i64 tail], .bool false]) ∧ w'.ownsRow w.heap.size 9 1 (.slice A2 n' c2) n' (pg.flatMap fun x : ByteArray => [Value.string x]) ∧ Below w.heap.size w w' := by
  go_enter Try.func54, Try.ntmps54
  go_wp2_with fail
  have k0 : Below w.heap.size w ((((w.alloc (.cells #[.slice A' n' c'] 39)).alloc (.cells #[.int .i64 base, .int .i64 size, .int .i64 head, .int .i64 tail] 69)).alloc (.cells #[.slice none 0 0] 39)).alloc (.cells #[.int .i64 0, .int .i64 0, .int .i64 0, .int .i64 0] 69)) := by go_grown
  have bx0_0 : ((((w.alloc (.cells #[.slice A' n' c'] 39)).alloc (.cells #[.int .i64 base, .int .i64 size, .int .i64 head, .int .i64 tail] 69)).alloc (.cells #[.slice none 0 0] 39)).alloc (.cells #[.int .i64 0, .int .i64 0, .int .i64 0, .int .i64 0] 69)).cell? ⟨w.heap.size, 0, none⟩ = some (.slice A' n' c') := by simp [go_sem]
  have bl0 : w.heap.size < ((((w.alloc (.cells #[.slice A' n' c'] 39)).alloc (.cells #[.int .i64 base, .int .i64 size, .int .i64 head, .int .i64 tail] 69)).alloc (.cells #[.slice none 0 0] 39)).alloc (.cells #[.int .i64 0, .int .i64 0, .int .i64 0, .int .i64 0] 69)).heap.size := by go_size
  have hk0 : Blk ((((w.alloc (.cells #[.slice A' n' c'] 39)).alloc (.cells #[.int .i64 base, .int .i64 size, .int .i64 head, .int .i64 tail] 69)).alloc (.cells #[.slice none 0 0] 39)).alloc (.cells #[.int .i64 0, .int .i64 0, .int .i64 0, .int .i64 0] 69)) (w.heap.size) 39 [.slice A' n' c'] := by simpa using (((Blk.new w 39 [.slice A' n' c']).alloc (.cells #[.int .i64 base, .int .i64 size, .int .i64 head, .int .i64 tail] 69)).alloc (.cells #[.slice none 0 0] 39)).alloc (.cells #[.int .i64 0, .int .i64 0, .int .i64 0, .int .i64 0] 69)
  have bx1_0 : ((((w.alloc (.cells #[.slice A' n' c'] 39)).alloc (.cells #[.int .i64 base, .int .i64 size, .int .i64 head, .int .i64 tail] 69)).alloc (.cells #[.slice none 0 0] 39)).alloc (.cells #[.int .i64 0, .int .i64 0, .int .i64 0, .int .i64 0] 69)).cell? ⟨w.heap.size + 1, 0, none⟩ = some (.int .i64 base) := by simp [go_sem]
  have bx1_1 : ((((w.alloc (.cells #[.slice A' n' c'] 39)).alloc (.cells #[.int .i64 base, .int .i64 size, .int .i64 head, .int .i64 tail] 69)).alloc (.cells #[.slice none 0 0] 39)).alloc (.cells #[.int .i64 0, .int .i64 0, .int .i64 0, .int .i64 0] 69)).cell? ⟨w.heap.size + 1, 1, none⟩ = some (.int .i64 size) := by simp [go_sem]
  have bx1_2 : ((((w.alloc (.cells #[.slice A' n' c'] 39)).alloc (.cells #[.int .i64 base, .int .i64 size, .int .i64 head, .int .i64 tail] 69)).alloc (.cells #[.slice none 0 0] 39)).alloc (.cells #[.int .i64 0, .int .i64 0, .int .i64 0, .int .i64 0] 69)).cell? ⟨w.heap.size + 1, 2, none⟩ = some (.int .i64 head) := by simp [go_sem]
  have bx1_3 : ((((w.alloc (.cells #[.slice A' n' c'] 39)).alloc (.cells #[.int .i64 base, .int .i64 size, .int .i64 head, .int .i64 tail] 69)).alloc (.cells #[.slice none 0 0] 39)).alloc (.cells #[.int .i64 0, .int .i64 0, .int .i64 0, .int .i64 0] 69)).cell? ⟨w.heap.size + 1, 3, none⟩ = some (.int .i64 tail) := by simp [go_sem]
  have bl1 : w.heap.size + 1 < ((((w.alloc (.cells #[.slice A' n' c'] 39)).alloc (.cells #[.int .i64 base, .int .i64 size, .int .i64 head, .int .i64 tail] 69)).alloc (.cells #[.slice none 0 0] 39)).alloc (.cells #[.int .i64 0, .int .i64 0, .int .i64 0, .int .i64 0] 69)).heap.size := by go_size
  have hk1 : Blk ((((w.alloc (.cells #[.slice A' n' c'] 39)).alloc (.cells #[.int .i64 base, .int .i64 size, .int .i64 head, .int .i64 tail] 69)).alloc (.cells #[.slice none 0 0] 39)).alloc (.cells #[.int .i64 0, .int .i64 0, .int .i64 0, .int .i64 0] 69)) (w.heap.size + 1) 69 [.int .i64 base, .int .i64 size, .int .i64 head, .int .i64 tail] := by simpa using ((Blk.new (w.alloc (.cells #[.slice A' n' c'] 39)) 69 [.int .i64 base, .int .i64 size, .int .i64 head, .int .i64 tail]).alloc (.cells #[.slice none 0 0] 39)).alloc (.cells #[.int .i64 0, .int .i64 0, .int .i64 0, .int .i64 0] 69)
  have bx2_0 : ((((w.alloc (.cells #[.slice A' n' c'] 39)).alloc (.cells #[.int .i64 base, .int .i64 size, .int .i64 head, .int .i64 tail] 69)).alloc (.cells #[.slice none 0 0] 39)).alloc (.cells #[.int .i64 0, .int .i64 0, .int .i64 0, .int .i64 0] 69)).cell? ⟨w.heap.size + 1 + 1, 0, none⟩ = some (.slice none 0 0) := by simp [go_sem]
  have bl2 : w.heap.size + 1 + 1 < ((((w.alloc (.cells #[.slice A' n' c'] 39)).alloc (.cells #[.int .i64 base, .int .i64 size, .int .i64 head, .int .i64 tail] 69)).alloc (.cells #[.slice none 0 0] 39)).alloc (.cells #[.int .i64 0, .int .i64 0, .int .i64 0, .int .i64 0] 69)).heap.size := by go_size
  have hk2 : Blk ((((w.alloc (.cells #[.slice A' n' c'] 39)).alloc (.cells #[.int .i64 base, .int .i64 size, .int .i64 head, .int .i64 tail] 69)).alloc (.cells #[.slice none 0 0] 39)).alloc (.cells #[.int .i64 0, .int .i64 0, .int .i64 0, .int .i64 0] 69)) (w.heap.size + 1 + 1) 39 [.slice none 0 0] := by simpa using (Blk.new ((w.alloc (.cells #[.slice A' n' c'] 39)).alloc (.cells #[.int .i64 base, .int .i64 size, .int .i64 head, .int .i64 tail] 69)) 39 [.slice none 0 0]).alloc (.cells #[.int .i64 0, .int .i64 0, .int .i64 0, .int .i64 0] 69)
  have bx3_0 : ((((w.alloc (.cells #[.slice A' n' c'] 39)).alloc (.cells #[.int .i64 base, .int .i64 size, .int .i64 head, .int .i64 tail] 69)).alloc (.cells #[.slice none 0 0] 39)).alloc (.cells #[.int .i64 0, .int .i64 0, .int .i64 0, .int .i64 0] 69)).cell? ⟨w.heap.size + 1 + 1 + 1, 0, none⟩ = some (.int .i64 0) := by simp [go_sem]
  have bx3_1 : ((((w.alloc (.cells #[.slice A' n' c'] 39)).alloc (.cells #[.int .i64 base, .int .i64 size, .int .i64 head, .int .i64 tail] 69)).alloc (.cells #[.slice none 0 0] 39)).alloc (.cells #[.int .i64 0, .int .i64 0, .int .i64 0, .int .i64 0] 69)).cell? ⟨w.heap.size + 1 + 1 + 1, 1, none⟩ = some (.int .i64 0) := by simp [go_sem]
  have bx3_2 : ((((w.alloc (.cells #[.slice A' n' c'] 39)).alloc (.cells #[.int .i64 base, .int .i64 size, .int .i64 head, .int .i64 tail] 69)).alloc (.cells #[.slice none 0 0] 39)).alloc (.cells #[.int .i64 0, .int .i64 0, .int .i64 0, .int .i64 0] 69)).cell? ⟨w.heap.size + 1 + 1 + 1, 2, none⟩ = some (.int .i64 0) := by simp [go_sem]
  have bx3_3 : ((((w.alloc (.cells #[.slice A' n' c'] 39)).alloc (.cells #[.int .i64 base, .int .i64 size, .int .i64 head, .int .i64 tail] 69)).alloc (.cells #[.slice none 0 0] 39)).alloc (.cells #[.int .i64 0, .int .i64 0, .int .i64 0, .int .i64 0] 69)).cell? ⟨w.heap.size + 1 + 1 + 1, 3, none⟩ = some (.int .i64 0) := by simp [go_sem]
  have bl3 : w.heap.size + 1 + 1 + 1 < ((((w.alloc (.cells #[.slice A' n' c'] 39)).alloc (.cells #[.int .i64 base, .int .i64 size, .int .i64 head, .int .i64 tail] 69)).alloc (.cells #[.slice none 0 0] 39)).alloc (.cells #[.int .i64 0, .int .i64 0, .int .i64 0, .int .i64 0] 69)).heap.size := by go_size
  have hk3 : Blk ((((w.alloc (.cells #[.slice A' n' c'] 39)).alloc (.cells #[.int .i64 base, .int .i64 size, .int .i64 head, .int .i64 tail] 69)).alloc (.cells #[.slice none 0 0] 39)).alloc (.cells #[.int .i64 0, .int .i64 0, .int .i64 0, .int .i64 0] 69)) (w.heap.size + 1 + 1 + 1) 69 [.int .i64 0, .int .i64 0, .int .i64 0, .int .i64 0] := by simpa using Blk.new (((w.alloc (.cells #[.slice A' n' c'] 39)).alloc (.cells #[.int .i64 base, .int .i64 size, .int .i64 head, .int .i64 tail] 69)).alloc (.cells #[.slice none 0 0] 39)) 69 [.int .i64 0, .int .i64 0, .int .i64 0, .int .i64 0]
  have r_a := r_a.below k0
  have r_b := r_b.below k0
  have p0 := k0.size
  generalize hW0 : ((((w.alloc (.cells #[.slice A' n' c'] 39)).alloc (.cells #[.int .i64 base, .int .i64 size, .int .i64 head, .int .i64 tail] 69)).alloc (.cells #[.slice none 0 0] 39)).alloc (.cells #[.int .i64 0, .int .i64 0, .int .i64 0, .int .i64 0] 69)) = w0 at *
  clear hW0
  have bx0_0 : w0.cell? ⟨w.heap.size, 0, none⟩ = some (.slice A' n' c') := (hk0.cell 0).trans rfl
  have fz0_0 := hk0.frozen 0
  have bx1_0 : w0.cell? ⟨w.heap.size + 1, 0, none⟩ = some (.int .i64 base) := (hk1.cell 0).trans rfl
  have fz1_0 := hk1.frozen 0
  have bx1_1 : w0.cell? ⟨w.heap.size + 1, 1, none⟩ = some (.int .i64 size) := (hk1.cell 1).trans rfl
  have fz1_1 := hk1.frozen 1
  have bx1_2 : w0.cell? ⟨w.heap.size + 1, 2, none⟩ = some (.int .i64 head) := (hk1.cell 2).trans rfl
  have fz1_2 := hk1.frozen 2
  have bx1_3 : w0.cell? ⟨w.heap.size + 1, 3, none⟩ = some (.int .i64 tail) := (hk1.cell 3).trans rfl
  have fz1_3 := hk1.frozen 3
  have bx2_0 : w0.cell? ⟨w.heap.size + 1 + 1, 0, none⟩ = some (.slice none 0 0) := (hk2.cell 0).trans rfl
  have fz2_0 := hk2.frozen 0
  have bx3_0 : w0.cell? ⟨w.heap.size + 1 + 1 + 1, 0, none⟩ = some (.int .i64 0) := (hk3.cell 0).trans rfl
  have fz3_0 := hk3.frozen 0
  have bx3_1 : w0.cell? ⟨w.heap.size + 1 + 1 + 1, 1, none⟩ = some (.int .i64 0) := (hk3.cell 1).trans rfl
  have fz3_1 := hk3.frozen 1
  have bx3_2 : w0.cell? ⟨w.heap.size + 1 + 1 + 1, 2, none⟩ = some (.int .i64 0) := (hk3.cell 2).trans rfl
  have fz3_2 := hk3.frozen 2
  have bx3_3 : w0.cell? ⟨w.heap.size + 1 + 1 + 1, 3, none⟩ = some (.int .i64 0) := (hk3.cell 3).trans rfl
  have fz3_3 := hk3.frozen 3
  refine (implRingFree_c _ _ _ _ _ hh ht).mono ?_
  rintro e w1 ⟨rfl, hb⟩
  have k1 : Below w.heap.size w w1 := ext_step k0 (by omega) hb
  have p1 := hb.size
  have hk0 := hk0.ext hb
  have hk1 := hk1.ext hb
  have hk2 := hk2.ext hb
  have hk3 := hk3.ext hb
  have bx0_0 : w1.cell? ⟨w.heap.size, 0, none⟩ = some (.slice A' n' c') := (hk0.cell 0).trans rfl
  have fz0_0 := hk0.frozen 0
  have bx1_0 : w1.cell? ⟨w.heap.size + 1, 0, none⟩ = some (.int .i64 base) := (hk1.cell 0).trans rfl
  have fz1_0 := hk1.frozen 0
  have bx1_1 : w1.cell? ⟨w.heap.size + 1, 1, none⟩ = some (.int .i64 size) := (hk1.cell 1).trans rfl
  have fz1_1 := hk1.frozen 1
  have bx1_2 : w1.cell? ⟨w.heap.size + 1, 2, none⟩ = some (.int .i64 head) := (hk1.cell 2).trans rfl
  have fz1_2 := hk1.frozen 2
  have bx1_3 : w1.cell? ⟨w.heap.size + 1, 3, none⟩ = some (.int .i64 tail) := (hk1.cell 3).trans rfl
  have fz1_3 := hk1.frozen 3
  have bx2_0 : w1.cell? ⟨w.heap.size + 1 + 1, 0, none⟩ = some (.slice none 0 0) := (hk2.cell 0).trans rfl
  have fz2_0 := hk2.frozen 0
  have bx3_0 : w1.cell? ⟨w.heap.size + 1 + 1 + 1, 0, none⟩ = some (.int .i64 0) := (hk3.cell 0).trans rfl
  have fz3_0 := hk3.frozen 0
  have bx3_1 : w1.cell? ⟨w.heap.size + 1 + 1 + 1, 1, none⟩ = some (.int .i64 0) := (hk3.cell 1).trans rfl
  have fz3_1 := hk3.frozen 1
  have bx3_2 : w1.cell? ⟨w.heap.size + 1 + 1 + 1, 2, none⟩ = some (.int .i64 0) := (hk3.cell 2).trans rfl
  have fz3_2 := hk3.frozen 2
  have bx3_3 : w1.cell? ⟨w.heap.size + 1 + 1 + 1, 3, none⟩ = some (.int .i64 0) := (hk3.cell 3).trans rfl
  have fz3_3 := hk3.frozen 3
  have bl0 := Nat.lt_of_lt_of_le bl0 hb.size
  have bl1 := Nat.lt_of_lt_of_le bl1 hb.size
  have bl2 := Nat.lt_of_lt_of_le bl2 hb.size
  have bl3 := Nat.lt_of_lt_of_le bl3 hb.size
  have r_a := r_a.below (hb.mono (by omega))
  have r_b := r_b.below (hb.mono (by omega))
  clear hb
  go_wp2_with fail
  refine wp_region_slotsS (w.heap.size) [(23, fun _ v => v = .agg #[.slice A' n' c']), (24, RowP w1.heap.size 9 1 n' (pg.flatMap fun x : ByteArray => [Value.string x]) (fun A c => .agg #[.slice A n' c])), (25, fun _ v => v = .agg #[.int .i64 base, .int .i64 size, .int .i64 head, .int .i64 tail]), (12, fun _ v => v = .bool false)] [⟨3, 24, fun u => Blk u (w.heap.size + 1 + 1) 39 [.slice none 0 0], StaR w1.heap.size (w.heap.size + 1 + 1) 39 9 1 n' (pg.flatMap fun x : ByteArray => [Value.string x]) (fun A c => .agg #[.slice A n' c]) (fun A c => [.slice A n' c])⟩, ⟨4, 25, fun u => Blk u (w.heap.size + 1 + 1 + 1) 69 [.int .i64 0, .int .i64 0, .int .i64 0, .int .i64 0], fun u _ => Blk u (w.heap.size + 1 + 1 + 1) 69 [.int .i64 base, .int .i64 size, .int .i64 head, .int .i64 tail]⟩] (fun u => Blk u (w.heap.size) 39 [.slice A' n' c'] ∧ Blk u (w.heap.size + 1) 69 [.int .i64 base, .int .i64 size, .int .i64 head, .int .i64 tail]) (by kernel_rfl) (by omega) (by kernel_rfl) (by kernel_rfl) (by kernel_rfl) (by kernel_rfl) ?_ ?_ ?_ ?_ ?_ ?_ ?_
  · intro p hp
    simp only [List.mem_cons, List.not_mem_nil, or_false] at hp
    rcases hp with rfl | rfl | rfl | rfl
    all_goals (intro u u' v hb hv; first | exact hv | exact BoxP.keep hv hb | exact RowP.keep hv hb)
  · intro s hs u u' hb
    simp only [List.mem_cons, List.not_mem_nil, or_false] at hs
    rcases hs with rfl | rfl
    all_goals (refine ⟨fun h => ?_, fun _ h => ?_⟩ <;> first | exact h | exact StoP.keep h hb | exact StoR.keep h hb | exact Blk.ext h hb | exact StaR.keep h hb)
  · intro s hs
    simp only [List.mem_cons, List.not_mem_nil, or_false] at hs
    rcases hs with rfl | rfl
    all_goals first | trivial | exact hk2 | exact hk3
  · exact ⟨hk0, hk1⟩
  · intro u u' hb hj
    obtain ⟨j0, j1⟩ := hj
    exact ⟨(j0.ext hb), (j1.ext hb)⟩
  · intro hGk hSk hJk
    refine allStep_cons (stepS_plain hGk hSk (by omega) hJk (by kernel_rfl) rfl ?_) ?_
    · intro a u hb hz hj hl hp K Q hK
      have e6 : a.tmps[6]?.getD undef = .pointer (some ⟨w.heap.size, 0, none⟩) := gd (hl 6 (by kernel_rfl))
      obtain ⟨j0, j1⟩ := hj
      have hBb := j0
      have gb0 : u.cell? ⟨w.heap.size, 0, none⟩ = some (.slice A' n' c') := (hBb.cell 0).trans rfl
      go_simp
      exact hK _ _ (Below.refl _ _) (by intro d hd; cases hd; exact rfl)
    refine allStep_cons (stepS_plain hGk hSk (by omega) hJk (by kernel_rfl) rfl ?_) ?_
    · intro a u hb hz hj hl hp K Q hK
      have e23 : a.tmps[23]?.getD undef = .agg #[.slice A' n' c'] := gd (hl 23 (by kernel_rfl))
      go_simp
      refine (copyMemory_c _ _ _ pg _ hn_b (by omega) ((r_b.below (hb.mono (by omega))).more (by omega))).mono ?_
      rintro e u1 ⟨A_q, c_q, rfl, o_q, hb1⟩
      exact hK _ _ hb1 (by intro d hd; cases hd; exact ⟨A_q, c_q, rfl, own_base o_q (by omega)⟩)
    refine allStep_cons (stepS_plain hGk hSk (by omega) hJk (by kernel_rfl) rfl ?_) ?_
    · intro a u hb hz hj hl hp K Q hK
      have e8 : a.tmps[8]?.getD undef = .pointer (some ⟨w.heap.size + 1, 0, none⟩) := gd (hl 8 (by kernel_rfl))
      obtain ⟨j0, j1⟩ := hj
      have hBb := j1
      have gb0 : u.cell? ⟨w.heap.size + 1, 0, none⟩ = some (.int .i64 base) := (hBb.cell 0).trans rfl
      have gb1 : u.cell? ⟨w.heap.size + 1, 1, none⟩ = some (.int .i64 size) := (hBb.cell 1).trans rfl
      have gb2 : u.cell? ⟨w.heap.size + 1, 2, none⟩ = some (.int .i64 head) := (hBb.cell 2).trans rfl
      have gb3 : u.cell? ⟨w.heap.size + 1, 3, none⟩ = some (.int .i64 tail) := (hBb.cell 3).trans rfl
      go_simp
      exact hK _ _ (Below.refl _ _) (by intro d hd; cases hd; exact rfl)
    refine allStep_cons (stepS_store (ChgA (w.heap.size + 1 + 1)) (fun _ _ hc hb => hc.below (by omega) hb) (fun _ _ hc => hc.size) (hold_rel ?_) ?_ ?_ rfl rfl ?_) ?_
    · intro p hp
      simp only [List.mem_cons, List.not_mem_nil, or_false] at hp
      rcases hp with rfl | rfl | rfl | rfl
      all_goals (intro u u' v hb hv; first | exact hv | exact BoxP.chgA hv hb (by omega) | exact RowP.chgA hv hb (by omega))
    · intro s hs hne u u' hb
      simp only [List.mem_cons, List.not_mem_nil, or_false] at hs
      rcases hs with rfl | rfl
      all_goals first | exact absurd (by rfl) hne | (refine ⟨fun h => ?_, fun _ h => ?_⟩ <;> first | exact h | exact Blk.chgA h hb (by omega) | exact StoP.chgA h hb (by omega) | exact StoR.chgA h hb (by omega) | exact StaR.chgA h hb (by omega) (by omega))
    · intro u u' hb hj
      obtain ⟨j0, j1⟩ := hj
      exact ⟨(j0.chgA hb (by omega)), (j1.chgA hb (by omega))⟩
    · intro a u hb hz hj hl hp K Q hK
      have e10 : a.tmps[10]?.getD undef = .pointer (some ⟨w.heap.size + 1 + 1, 0, none⟩) := gd (hl 10 (by kernel_rfl))
      have hBs : Blk u (w.heap.size + 1 + 1) 39 [.slice none 0 0] := hp _ (List.mem_of_getElem? (i := 0) rfl) (by kernel_rfl)
      have gs0 : u.cell? ⟨w.heap.size + 1 + 1, 0, none⟩ = some (.slice none 0 0) := (hBs.cell 0).trans rfl
      have f0 := hBs.frozen 0
      obtain ⟨A2, c2, ex24, o2⟩ : RowP w1.heap.size 9 1 n' (pg.flatMap fun x : ByteArray => [Value.string x]) (fun A c => .agg #[.slice A n' c]) u (a.tmps.getD 24 undef) := hl 24 (by kernel_rfl)
      have e24 := gd ex24
      go_simp
      refine hK undef _ ((ChgA.refl _ _).set 0 _) (fun s hs he => ?_)
      simp only [List.mem_cons, List.not_mem_nil, or_false] at hs
      rcases hs with rfl | rfl
      · exact ⟨A2, c2, ex24, (hBs.set_ 0 _), own_chgA o2 ((ChgA.refl _ _).set 0 _) (fun k hk => by have := (o2.lt k hk).1; omega)⟩
      · exact absurd (show (4 : Nat) = 3 from he) (by decide)
    refine allStep_cons (stepS_store (ChgA (w.heap.size + 1 + 1 + 1)) (fun _ _ hc hb => hc.below (by omega) hb) (fun _ _ hc => hc.size) (hold_rel ?_) ?_ ?_ rfl rfl ?_) ?_
    · intro p hp
      simp only [List.mem_cons, List.not_mem_nil, or_false] at hp
      rcases hp with rfl | rfl | rfl | rfl
      all_goals (intro u u' v hb hv; first | exact hv | exact BoxP.chgA hv hb (by omega) | exact RowP.chgA hv hb (by omega))
    · intro s hs hne u u' hb
      simp only [List.mem_cons, List.not_mem_nil, or_false] at hs
      rcases hs with rfl | rfl
      all_goals first | exact absurd (by rfl) hne | (refine ⟨fun h => ?_, fun _ h => ?_⟩ <;> first | exact h | exact Blk.chgA h hb (by omega) | exact StoP.chgA h hb (by omega) | exact StoR.chgA h hb (by omega) | exact StaR.chgA h hb (by omega) (by omega))
    · intro u u' hb hj
      obtain ⟨j0, j1⟩ := hj
      exact ⟨(j0.chgA hb (by omega)), (j1.chgA hb (by omega))⟩
    · intro a u hb hz hj hl hp K Q hK
      have e11 : a.tmps[11]?.getD undef = .pointer (some ⟨w.heap.size + 1 + 1 + 1, 0, none⟩) := gd (hl 11 (by kernel_rfl))
      have hBs : Blk u (w.heap.size + 1 + 1 + 1) 69 [.int .i64 0, .int .i64 0, .int .i64 0, .int .i64 0] := hp _ (List.mem_of_getElem? (i := 1) rfl) (by kernel_rfl)
      have gs0 : u.cell? ⟨w.heap.size + 1 + 1 + 1, 0, none⟩ = some (.int .i64 0) := (hBs.cell 0).trans rfl
      have gs1 : u.cell? ⟨w.heap.size + 1 + 1 + 1, 1, none⟩ = some (.int .i64 0) := (hBs.cell 1).trans rfl
      have gs2 : u.cell? ⟨w.heap.size + 1 + 1 + 1, 2, none⟩ = some (.int .i64 0) := (hBs.cell 2).trans rfl
      have gs3 : u.cell? ⟨w.heap.size + 1 + 1 + 1, 3, none⟩ = some (.int .i64 0) := (hBs.cell 3).trans rfl
      have f0 := hBs.frozen 0
      have f1 := hBs.frozen 1
      have f2 := hBs.frozen 2
      have f3 := hBs.frozen 3
      have e25 : a.tmps[25]?.getD undef = .agg #[.int .i64 base, .int .i64 size, .int .i64 head, .int .i64 tail] := gd (hl 25 (by kernel_rfl))
      go_simp
      refine hK undef _ (((((ChgA.refl _ _).set 0 _).set 1 _).set 2 _).set 3 _) (fun s hs he => ?_)
      simp only [List.mem_cons, List.not_mem_nil, or_false] at hs
      rcases hs with rfl | rfl
      · exact absurd (show (3 : Nat) = 4 from he) (by decide)
      · exact ((((hBs.set_ 0 _).set_ 1 _).set_ 2 _).set_ 3 _)
    refine allStep_cons (stepS_plain hGk hSk (by omega) hJk (by kernel_rfl) rfl ?_) ?_
    · intro a u hb hz hj hl hp K Q hK
      go_simp
      exact hK _ _ (Below.refl _ _) (by intro d hd; cases hd; exact rfl)
    exact allStep_nil
  intro x w2 hb hz hj hL hSt
  obtain ⟨hk0, hk1⟩ := hj
  have fx12 : x 12 = .bool false := hL _ (List.mem_of_getElem? (i := 3) rfl)
  obtain ⟨A_q, c_q, fy, hk2, o_q⟩ : StaR w1.heap.size (w.heap.size + 1 + 1) 39 9 1 n' (pg.flatMap fun x : ByteArray => [Value.string x]) (fun A c => .agg #[.slice A n' c]) (fun A c => [.slice A n' c]) w2 (x 24) := hSt _ (List.mem_of_getElem? (i := 0) rfl)
  clear fy
  have hk3 : Blk w2 (w.heap.size + 1 + 1 + 1) 69 [.int .i64 base, .int .i64 size, .int .i64 head, .int .i64 tail] := hSt _ (List.mem_of_getElem? (i := 1) rfl)
  simp only [List.map, putAll, fx12]
  have k2 : Below w.heap.size w w2 := k1.trans hb
  have p2 : w1.heap.size ≤ w2.heap.size := hb.size
  have bl0 := Nat.lt_of_lt_of_le bl0 hb.size
  have bl1 := Nat.lt_of_lt_of_le bl1 hb.size
  have bl2 := Nat.lt_of_lt_of_le bl2 hb.size
  have bl3 := Nat.lt_of_lt_of_le bl3 hb.size
  have r_a := r_a.below hb
  have r_b := r_b.below hb
  have r_q := Reads.of_own o_q
  have u_q := fun k hk => (o_q.lt k hk).2
  have bx0_0 : w2.cell? ⟨w.heap.size, 0, none⟩ = some (.slice A' n' c') := (hk0.cell 0).trans rfl
  have fz0_0 := hk0.frozen 0
  have bx1_0 : w2.cell? ⟨w.heap.size + 1, 0, none⟩ = some (.int .i64 base) := (hk1.cell 0).trans rfl
  have fz1_0 := hk1.frozen 0
  have bx1_1 : w2.cell? ⟨w.heap.size + 1, 1, none⟩ = some (.int .i64 size) := (hk1.cell 1).trans rfl
  have fz1_1 := hk1.frozen 1
  have bx1_2 : w2.cell? ⟨w.heap.size + 1, 2, none⟩ = some (.int .i64 head) := (hk1.cell 2).trans rfl
  have fz1_2 := hk1.frozen 2
  have bx1_3 : w2.cell? ⟨w.heap.size + 1, 3, none⟩ = some (.int .i64 tail) := (hk1.cell 3).trans rfl
  have fz1_3 := hk1.frozen 3
  have bx2_0 : w2.cell? ⟨w.heap.size + 1 + 1, 0, none⟩ = some (.slice A_q n' c_q) := (hk2.cell 0).trans rfl
  have fz2_0 := hk2.frozen 0
  have bx3_0 : w2.cell? ⟨w.heap.size + 1 + 1 + 1, 0, none⟩ = some (.int .i64 base) := (hk3.cell 0).trans rfl
  have fz3_0 := hk3.frozen 0
  have bx3_1 : w2.cell? ⟨w.heap.size + 1 + 1 + 1, 1, none⟩ = some (.int .i64 size) := (hk3.cell 1).trans rfl
  have fz3_1 := hk3.frozen 1
  have bx3_2 : w2.cell? ⟨w.heap.size + 1 + 1 + 1, 2, none⟩ = some (.int .i64 head) := (hk3.cell 2).trans rfl
  have fz3_2 := hk3.frozen 2
  have bx3_3 : w2.cell? ⟨w.heap.size + 1 + 1 + 1, 3, none⟩ = some (.int .i64 tail) := (hk3.cell 3).trans rfl
  have fz3_3 := hk3.frozen 3
  clear hL hSt hb hz fx12
  all_goals
    go_wp2
    refine bodyPost_ret (v := .tuple #[.agg #[.slice A_q n' c_q], .agg #[.int .i64 base, .int .i64 size, .int .i64 head, .int .i64 tail], .bool false]) (by simp [results, Try.results54, go_sem, bx2_0, bx3_0, bx3_1, bx3_2, bx3_3]) rfl ?_
    exact ⟨A_q, c_q, rfl, own_base o_q (by omega), k2⟩
set_option maxRecDepth 100000 in
set_option maxHeartbeats 2000000 in
theorem implRingPut_2 (A A' : Option Addr) (n c n' c' : Nat) (l : List Mapping) (pg : List ByteArray) (w : World) (hn_a : l.length = n) (hn_b : pg.length = n') (hs_a : n ≤ 1048576) (hs_b : n' ≤ 1048576) (r_a : Reads w w.heap.size 4 A n (l.flatMap Mapping.cells)) (r_b : Reads w w.heap.size 1 A' n' (pg.flatMap fun x : ByteArray => [Value.string x])) (d base size head tail : Int) (s : ByteArray) (hh : I64 head) (ht : I64 tail) (hsz : s.size ≤ 1048576) (hf2 : (freeI base size head tail == 0) = false) (h17 : ((s.size : Int) == 16) = false) (h18 : ((s.size : Int) != 16) = true) :
    Calls Try.prog 54 #[.slice A n c, .agg #[.slice A' n' c'], .int .i64 d, .agg #[.int .i64 base, .int .i64 size, .int .i64 head, .int .i64 tail], .string s] w fun e w' => ∃ A2 c2, e = .returned (.tuple #[.agg #[.slice A2 n' c2], .agg #[.int .i64 base, .int .i64 size, .int .i64 head, .int .i64 tail], .bool false]) ∧ w'.ownsRow w.heap.size 9 1 (.slice A2 n' c2) n' (pg.flatMap fun x : ByteArray => [Value.string x]) ∧ Below w.heap.size w w' := by
  go_enter Try.func54, Try.ntmps54
  go_wp2_with fail
  have k0 : Below w.heap.size w ((((w.alloc (.cells #[.slice A' n' c'] 39)).alloc (.cells #[.int .i64 base, .int .i64 size, .int .i64 head, .int .i64 tail] 69)).alloc (.cells #[.slice none 0 0] 39)).alloc (.cells #[.int .i64 0, .int .i64 0, .int .i64 0, .int .i64 0] 69)) := by go_grown
  have bx0_0 : ((((w.alloc (.cells #[.slice A' n' c'] 39)).alloc (.cells #[.int .i64 base, .int .i64 size, .int .i64 head, .int .i64 tail] 69)).alloc (.cells #[.slice none 0 0] 39)).alloc (.cells #[.int .i64 0, .int .i64 0, .int .i64 0, .int .i64 0] 69)).cell? ⟨w.heap.size, 0, none⟩ = some (.slice A' n' c') := by simp [go_sem]
  have bl0 : w.heap.size < ((((w.alloc (.cells #[.slice A' n' c'] 39)).alloc (.cells #[.int .i64 base, .int .i64 size, .int .i64 head, .int .i64 tail] 69)).alloc (.cells #[.slice none 0 0] 39)).alloc (.cells #[.int .i64 0, .int .i64 0, .int .i64 0, .int .i64 0] 69)).heap.size := by go_size
  have hk0 : Blk ((((w.alloc (.cells #[.slice A' n' c'] 39)).alloc (.cells #[.int .i64 base, .int .i64 size, .int .i64 head, .int .i64 tail] 69)).alloc (.cells #[.slice none 0 0] 39)).alloc (.cells #[.int .i64 0, .int .i64 0, .int .i64 0, .int .i64 0] 69)) (w.heap.size) 39 [.slice A' n' c'] := by simpa using (((Blk.new w 39 [.slice A' n' c']).alloc (.cells #[.int .i64 base, .int .i64 size, .int .i64 head, .int .i64 tail] 69)).alloc (.cells #[.slice none 0 0] 39)).alloc (.cells #[.int .i64 0, .int .i64 0, .int .i64 0, .int .i64 0] 69)
  have bx1_0 : ((((w.alloc (.cells #[.slice A' n' c'] 39)).alloc (.cells #[.int .i64 base, .int .i64 size, .int .i64 head, .int .i64 tail] 69)).alloc (.cells #[.slice none 0 0] 39)).alloc (.cells #[.int .i64 0, .int .i64 0, .int .i64 0, .int .i64 0] 69)).cell? ⟨w.heap.size + 1, 0, none⟩ = some (.int .i64 base) := by simp [go_sem]
  have bx1_1 : ((((w.alloc (.cells #[.slice A' n' c'] 39)).alloc (.cells #[.int .i64 base, .int .i64 size, .int .i64 head, .int .i64 tail] 69)).alloc (.cells #[.slice none 0 0] 39)).alloc (.cells #[.int .i64 0, .int .i64 0, .int .i64 0, .int .i64 0] 69)).cell? ⟨w.heap.size + 1, 1, none⟩ = some (.int .i64 size) := by simp [go_sem]
  have bx1_2 : ((((w.alloc (.cells #[.slice A' n' c'] 39)).alloc (.cells #[.int .i64 base, .int .i64 size, .int .i64 head, .int .i64 tail] 69)).alloc (.cells #[.slice none 0 0] 39)).alloc (.cells #[.int .i64 0, .int .i64 0, .int .i64 0, .int .i64 0] 69)).cell? ⟨w.heap.size + 1, 2, none⟩ = some (.int .i64 head) := by simp [go_sem]
  have bx1_3 : ((((w.alloc (.cells #[.slice A' n' c'] 39)).alloc (.cells #[.int .i64 base, .int .i64 size, .int .i64 head, .int .i64 tail] 69)).alloc (.cells #[.slice none 0 0] 39)).alloc (.cells #[.int .i64 0, .int .i64 0, .int .i64 0, .int .i64 0] 69)).cell? ⟨w.heap.size + 1, 3, none⟩ = some (.int .i64 tail) := by simp [go_sem]
  have bl1 : w.heap.size + 1 < ((((w.alloc (.cells #[.slice A' n' c'] 39)).alloc (.cells #[.int .i64 base, .int .i64 size, .int .i64 head, .int .i64 tail] 69)).alloc (.cells #[.slice none 0 0] 39)).alloc (.cells #[.int .i64 0, .int .i64 0, .int .i64 0, .int .i64 0] 69)).heap.size := by go_size
  have hk1 : Blk ((((w.alloc (.cells #[.slice A' n' c'] 39)).alloc (.cells #[.int .i64 base, .int .i64 size, .int .i64 head, .int .i64 tail] 69)).alloc (.cells #[.slice none 0 0] 39)).alloc (.cells #[.int .i64 0, .int .i64 0, .int .i64 0, .int .i64 0] 69)) (w.heap.size + 1) 69 [.int .i64 base, .int .i64 size, .int .i64 head, .int .i64 tail] := by simpa using ((Blk.new (w.alloc (.cells #[.slice A' n' c'] 39)) 69 [.int .i64 base, .int .i64 size, .int .i64 head, .int .i64 tail]).alloc (.cells #[.slice none 0 0] 39)).alloc (.cells #[.int .i64 0, .int .i64 0, .int .i64 0, .int .i64 0] 69)
  have bx2_0 : ((((w.alloc (.cells #[.slice A' n' c'] 39)).alloc (.cells #[.int .i64 base, .int .i64 size, .int .i64 head, .int .i64 tail] 69)).alloc (.cells #[.slice none 0 0] 39)).alloc (.cells #[.int .i64 0, .int .i64 0, .int .i64 0, .int .i64 0] 69)).cell? ⟨w.heap.size + 1 + 1, 0, none⟩ = some (.slice none 0 0) := by simp [go_sem]
  have bl2 : w.heap.size + 1 + 1 < ((((w.alloc (.cells #[.slice A' n' c'] 39)).alloc (.cells #[.int .i64 base, .int .i64 size, .int .i64 head, .int .i64 tail] 69)).alloc (.cells #[.slice none 0 0] 39)).alloc (.cells #[.int .i64 0, .int .i64 0, .int .i64 0, .int .i64 0] 69)).heap.size := by go_size
  have hk2 : Blk ((((w.alloc (.cells #[.slice A' n' c'] 39)).alloc (.cells #[.int .i64 base, .int .i64 size, .int .i64 head, .int .i64 tail] 69)).alloc (.cells #[.slice none 0 0] 39)).alloc (.cells #[.int .i64 0, .int .i64 0, .int .i64 0, .int .i64 0] 69)) (w.heap.size + 1 + 1) 39 [.slice none 0 0] := by simpa using (Blk.new ((w.alloc (.cells #[.slice A' n' c'] 39)).alloc (.cells #[.int .i64 base, .int .i64 size, .int .i64 head, .int .i64 tail] 69)) 39 [.slice none 0 0]).alloc (.cells #[.int .i64 0, .int .i64 0, .int .i64 0, .int .i64 0] 69)
  have bx3_0 : ((((w.alloc (.cells #[.slice A' n' c'] 39)).alloc (.cells #[.int .i64 base, .int .i64 size, .int .i64 head, .int .i64 tail] 69)).alloc (.cells #[.slice none 0 0] 39)).alloc (.cells #[.int .i64 0, .int .i64 0, .int .i64 0, .int .i64 0] 69)).cell? ⟨w.heap.size + 1 + 1 + 1, 0, none⟩ = some (.int .i64 0) := by simp [go_sem]
  have bx3_1 : ((((w.alloc (.cells #[.slice A' n' c'] 39)).alloc (.cells #[.int .i64 base, .int .i64 size, .int .i64 head, .int .i64 tail] 69)).alloc (.cells #[.slice none 0 0] 39)).alloc (.cells #[.int .i64 0, .int .i64 0, .int .i64 0, .int .i64 0] 69)).cell? ⟨w.heap.size + 1 + 1 + 1, 1, none⟩ = some (.int .i64 0) := by simp [go_sem]
  have bx3_2 : ((((w.alloc (.cells #[.slice A' n' c'] 39)).alloc (.cells #[.int .i64 base, .int .i64 size, .int .i64 head, .int .i64 tail] 69)).alloc (.cells #[.slice none 0 0] 39)).alloc (.cells #[.int .i64 0, .int .i64 0, .int .i64 0, .int .i64 0] 69)).cell? ⟨w.heap.size + 1 + 1 + 1, 2, none⟩ = some (.int .i64 0) := by simp [go_sem]
  have bx3_3 : ((((w.alloc (.cells #[.slice A' n' c'] 39)).alloc (.cells #[.int .i64 base, .int .i64 size, .int .i64 head, .int .i64 tail] 69)).alloc (.cells #[.slice none 0 0] 39)).alloc (.cells #[.int .i64 0, .int .i64 0, .int .i64 0, .int .i64 0] 69)).cell? ⟨w.heap.size + 1 + 1 + 1, 3, none⟩ = some (.int .i64 0) := by simp [go_sem]
  have bl3 : w.heap.size + 1 + 1 + 1 < ((((w.alloc (.cells #[.slice A' n' c'] 39)).alloc (.cells #[.int .i64 base, .int .i64 size, .int .i64 head, .int .i64 tail] 69)).alloc (.cells #[.slice none 0 0] 39)).alloc (.cells #[.int .i64 0, .int .i64 0, .int .i64 0, .int .i64 0] 69)).heap.size := by go_size
  have hk3 : Blk ((((w.alloc (.cells #[.slice A' n' c'] 39)).alloc (.cells #[.int .i64 base, .int .i64 size, .int .i64 head, .int .i64 tail] 69)).alloc (.cells #[.slice none 0 0] 39)).alloc (.cells #[.int .i64 0, .int .i64 0, .int .i64 0, .int .i64 0] 69)) (w.heap.size + 1 + 1 + 1) 69 [.int .i64 0, .int .i64 0, .int .i64 0, .int .i64 0] := by simpa using Blk.new (((w.alloc (.cells #[.slice A' n' c'] 39)).alloc (.cells #[.int .i64 base, .int .i64 size, .int .i64 head, .int .i64 tail] 69)).alloc (.cells #[.slice none 0 0] 39)) 69 [.int .i64 0, .int .i64 0, .int .i64 0, .int .i64 0]
  have r_a := r_a.below k0
  have r_b := r_b.below k0
  have p0 := k0.size
  generalize hW0 : ((((w.alloc (.cells #[.slice A' n' c'] 39)).alloc (.cells #[.int .i64 base, .int .i64 size, .int .i64 head, .int .i64 tail] 69)).alloc (.cells #[.slice none 0 0] 39)).alloc (.cells #[.int .i64 0, .int .i64 0, .int .i64 0, .int .i64 0] 69)) = w0 at *
  clear hW0
  have bx0_0 : w0.cell? ⟨w.heap.size, 0, none⟩ = some (.slice A' n' c') := (hk0.cell 0).trans rfl
  have fz0_0 := hk0.frozen 0
  have bx1_0 : w0.cell? ⟨w.heap.size + 1, 0, none⟩ = some (.int .i64 base) := (hk1.cell 0).trans rfl
  have fz1_0 := hk1.frozen 0
  have bx1_1 : w0.cell? ⟨w.heap.size + 1, 1, none⟩ = some (.int .i64 size) := (hk1.cell 1).trans rfl
  have fz1_1 := hk1.frozen 1
  have bx1_2 : w0.cell? ⟨w.heap.size + 1, 2, none⟩ = some (.int .i64 head) := (hk1.cell 2).trans rfl
  have fz1_2 := hk1.frozen 2
  have bx1_3 : w0.cell? ⟨w.heap.size + 1, 3, none⟩ = some (.int .i64 tail) := (hk1.cell 3).trans rfl
  have fz1_3 := hk1.frozen 3
  have bx2_0 : w0.cell? ⟨w.heap.size + 1 + 1, 0, none⟩ = some (.slice none 0 0) := (hk2.cell 0).trans rfl
  have fz2_0 := hk2.frozen 0
  have bx3_0 : w0.cell? ⟨w.heap.size + 1 + 1 + 1, 0, none⟩ = some (.int .i64 0) := (hk3.cell 0).trans rfl
  have fz3_0 := hk3.frozen 0
  have bx3_1 : w0.cell? ⟨w.heap.size + 1 + 1 + 1, 1, none⟩ = some (.int .i64 0) := (hk3.cell 1).trans rfl
  have fz3_1 := hk3.frozen 1
  have bx3_2 : w0.cell? ⟨w.heap.size + 1 + 1 + 1, 2, none⟩ = some (.int .i64 0) := (hk3.cell 2).trans rfl
  have fz3_2 := hk3.frozen 2
  have bx3_3 : w0.cell? ⟨w.heap.size + 1 + 1 + 1, 3, none⟩ = some (.int .i64 0) := (hk3.cell 3).trans rfl
  have fz3_3 := hk3.frozen 3
  refine (implRingFree_c _ _ _ _ _ hh ht).mono ?_
  rintro e w1 ⟨rfl, hb⟩
  have k1 : Below w.heap.size w w1 := ext_step k0 (by omega) hb
  have p1 := hb.size
  have hk0 := hk0.ext hb
  have hk1 := hk1.ext hb
  have hk2 := hk2.ext hb
  have hk3 := hk3.ext hb
  have bx0_0 : w1.cell? ⟨w.heap.size, 0, none⟩ = some (.slice A' n' c') := (hk0.cell 0).trans rfl
  have fz0_0 := hk0.frozen 0
  have bx1_0 : w1.cell? ⟨w.heap.size + 1, 0, none⟩ = some (.int .i64 base) := (hk1.cell 0).trans rfl
  have fz1_0 := hk1.frozen 0
  have bx1_1 : w1.cell? ⟨w.heap.size + 1, 1, none⟩ = some (.int .i64 size) := (hk1.cell 1).trans rfl
  have fz1_1 := hk1.frozen 1
  have bx1_2 : w1.cell? ⟨w.heap.size + 1, 2, none⟩ = some (.int .i64 head) := (hk1.cell 2).trans rfl
  have fz1_2 := hk1.frozen 2
  have bx1_3 : w1.cell? ⟨w.heap.size + 1, 3, none⟩ = some (.int .i64 tail) := (hk1.cell 3).trans rfl
  have fz1_3 := hk1.frozen 3
  have bx2_0 : w1.cell? ⟨w.heap.size + 1 + 1, 0, none⟩ = some (.slice none 0 0) := (hk2.cell 0).trans rfl
  have fz2_0 := hk2.frozen 0
  have bx3_0 : w1.cell? ⟨w.heap.size + 1 + 1 + 1, 0, none⟩ = some (.int .i64 0) := (hk3.cell 0).trans rfl
  have fz3_0 := hk3.frozen 0
  have bx3_1 : w1.cell? ⟨w.heap.size + 1 + 1 + 1, 1, none⟩ = some (.int .i64 0) := (hk3.cell 1).trans rfl
  have fz3_1 := hk3.frozen 1
  have bx3_2 : w1.cell? ⟨w.heap.size + 1 + 1 + 1, 2, none⟩ = some (.int .i64 0) := (hk3.cell 2).trans rfl
  have fz3_2 := hk3.frozen 2
  have bx3_3 : w1.cell? ⟨w.heap.size + 1 + 1 + 1, 3, none⟩ = some (.int .i64 0) := (hk3.cell 3).trans rfl
  have fz3_3 := hk3.frozen 3
  have bl0 := Nat.lt_of_lt_of_le bl0 hb.size
  have bl1 := Nat.lt_of_lt_of_le bl1 hb.size
  have bl2 := Nat.lt_of_lt_of_le bl2 hb.size
  have bl3 := Nat.lt_of_lt_of_le bl3 hb.size
  have r_a := r_a.below (hb.mono (by omega))
  have r_b := r_b.below (hb.mono (by omega))
  clear hb
  go_wp2_with fail
  refine wp_region_slotsS (w.heap.size) [(23, fun _ v => v = .agg #[.slice A' n' c']), (24, RowP w1.heap.size 9 1 n' (pg.flatMap fun x : ByteArray => [Value.string x]) (fun A c => .agg #[.slice A n' c])), (25, fun _ v => v = .agg #[.int .i64 base, .int .i64 size, .int .i64 head, .int .i64 tail]), (12, fun _ v => v = .bool false)] [⟨3, 24, fun u => Blk u (w.heap.size + 1 + 1) 39 [.slice none 0 0], StaR w1.heap.size (w.heap.size + 1 + 1) 39 9 1 n' (pg.flatMap fun x : ByteArray => [Value.string x]) (fun A c => .agg #[.slice A n' c]) (fun A c => [.slice A n' c])⟩, ⟨4, 25, fun u => Blk u (w.heap.size + 1 + 1 + 1) 69 [.int .i64 0, .int .i64 0, .int .i64 0, .int .i64 0], fun u _ => Blk u (w.heap.size + 1 + 1 + 1) 69 [.int .i64 base, .int .i64 size, .int .i64 head, .int .i64 tail]⟩] (fun u => Blk u (w.heap.size) 39 [.slice A' n' c'] ∧ Blk u (w.heap.size + 1) 69 [.int .i64 base, .int .i64 size, .int .i64 head, .int .i64 tail]) (by kernel_rfl) (by omega) (by kernel_rfl) (by kernel_rfl) (by kernel_rfl) (by kernel_rfl) ?_ ?_ ?_ ?_ ?_ ?_ ?_
  · intro p hp
    simp only [List.mem_cons, List.not_mem_nil, or_false] at hp
    rcases hp with rfl | rfl | rfl | rfl
    all_goals (intro u u' v hb hv; first | exact hv | exact BoxP.keep hv hb | exact RowP.keep hv hb)
  · intro s hs u u' hb
    simp only [List.mem_cons, List.not_mem_nil, or_false] at hs
    rcases hs with rfl | rfl
    all_goals (refine ⟨fun h => ?_, fun _ h => ?_⟩ <;> first | exact h | exact StoP.keep h hb | exact StoR.keep h hb | exact Blk.ext h hb | exact StaR.keep h hb)
  · intro s hs
    simp only [List.mem_cons, List.not_mem_nil, or_false] at hs
    rcases hs with rfl | rfl
    all_goals first | trivial | exact hk2 | exact hk3
  · exact ⟨hk0, hk1⟩
  · intro u u' hb hj
    obtain ⟨j0, j1⟩ := hj
    exact ⟨(j0.ext hb), (j1.ext hb)⟩
  · intro hGk hSk hJk
    refine allStep_cons (stepS_plain hGk hSk (by omega) hJk (by kernel_rfl) rfl ?_) ?_
    · intro a u hb hz hj hl hp K Q hK
      have e6 : a.tmps[6]?.getD undef = .pointer (some ⟨w.heap.size, 0, none⟩) := gd (hl 6 (by kernel_rfl))
      obtain ⟨j0, j1⟩ := hj
      have hBb := j0
      have gb0 : u.cell? ⟨w.heap.size, 0, none⟩ = some (.slice A' n' c') := (hBb.cell 0).trans rfl
      go_simp
      exact hK _ _ (Below.refl _ _) (by intro d hd; cases hd; exact rfl)
    refine allStep_cons (stepS_plain hGk hSk (by omega) hJk (by kernel_rfl) rfl ?_) ?_
    · intro a u hb hz hj hl hp K Q hK
      have e23 : a.tmps[23]?.getD undef = .agg #[.slice A' n' c'] := gd (hl 23 (by kernel_rfl))
      go_simp
      refine (copyMemory_c _ _ _ pg _ hn_b (by omega) ((r_b.below (hb.mono (by omega))).more (by omega))).mono ?_
      rintro e u1 ⟨A_q, c_q, rfl, o_q, hb1⟩
      exact hK _ _ hb1 (by intro d hd; cases hd; exact ⟨A_q, c_q, rfl, own_base o_q (by omega)⟩)
    refine allStep_cons (stepS_plain hGk hSk (by omega) hJk (by kernel_rfl) rfl ?_) ?_
    · intro a u hb hz hj hl hp K Q hK
      have e8 : a.tmps[8]?.getD undef = .pointer (some ⟨w.heap.size + 1, 0, none⟩) := gd (hl 8 (by kernel_rfl))
      obtain ⟨j0, j1⟩ := hj
      have hBb := j1
      have gb0 : u.cell? ⟨w.heap.size + 1, 0, none⟩ = some (.int .i64 base) := (hBb.cell 0).trans rfl
      have gb1 : u.cell? ⟨w.heap.size + 1, 1, none⟩ = some (.int .i64 size) := (hBb.cell 1).trans rfl
      have gb2 : u.cell? ⟨w.heap.size + 1, 2, none⟩ = some (.int .i64 head) := (hBb.cell 2).trans rfl
      have gb3 : u.cell? ⟨w.heap.size + 1, 3, none⟩ = some (.int .i64 tail) := (hBb.cell 3).trans rfl
      go_simp
      exact hK _ _ (Below.refl _ _) (by intro d hd; cases hd; exact rfl)
    refine allStep_cons (stepS_store (ChgA (w.heap.size + 1 + 1)) (fun _ _ hc hb => hc.below (by omega) hb) (fun _ _ hc => hc.size) (hold_rel ?_) ?_ ?_ rfl rfl ?_) ?_
    · intro p hp
      simp only [List.mem_cons, List.not_mem_nil, or_false] at hp
      rcases hp with rfl | rfl | rfl | rfl
      all_goals (intro u u' v hb hv; first | exact hv | exact BoxP.chgA hv hb (by omega) | exact RowP.chgA hv hb (by omega))
    · intro s hs hne u u' hb
      simp only [List.mem_cons, List.not_mem_nil, or_false] at hs
      rcases hs with rfl | rfl
      all_goals first | exact absurd (by rfl) hne | (refine ⟨fun h => ?_, fun _ h => ?_⟩ <;> first | exact h | exact Blk.chgA h hb (by omega) | exact StoP.chgA h hb (by omega) | exact StoR.chgA h hb (by omega) | exact StaR.chgA h hb (by omega) (by omega))
    · intro u u' hb hj
      obtain ⟨j0, j1⟩ := hj
      exact ⟨(j0.chgA hb (by omega)), (j1.chgA hb (by omega))⟩
    · intro a u hb hz hj hl hp K Q hK
      have e10 : a.tmps[10]?.getD undef = .pointer (some ⟨w.heap.size + 1 + 1, 0, none⟩) := gd (hl 10 (by kernel_rfl))
      have hBs : Blk u (w.heap.size + 1 + 1) 39 [.slice none 0 0] := hp _ (List.mem_of_getElem? (i := 0) rfl) (by kernel_rfl)
      have gs0 : u.cell? ⟨w.heap.size + 1 + 1, 0, none⟩ = some (.slice none 0 0) := (hBs.cell 0).trans rfl
      have f0 := hBs.frozen 0
      obtain ⟨A2, c2, ex24, o2⟩ : RowP w1.heap.size 9 1 n' (pg.flatMap fun x : ByteArray => [Value.string x]) (fun A c => .agg #[.slice A n' c]) u (a.tmps.getD 24 undef) := hl 24 (by kernel_rfl)
      have e24 := gd ex24
      go_simp
      refine hK undef _ ((ChgA.refl _ _).set 0 _) (fun s hs he => ?_)
      simp only [List.mem_cons, List.not_mem_nil, or_false] at hs
      rcases hs with rfl | rfl
      · exact ⟨A2, c2, ex24, (hBs.set_ 0 _), own_chgA o2 ((ChgA.refl _ _).set 0 _) (fun k hk => by have := (o2.lt k hk).1; omega)⟩
      · exact absurd (show (4 : Nat) = 3 from he) (by decide)
    refine allStep_cons (stepS_store (ChgA (w.heap.size + 1 + 1 + 1)) (fun _ _ hc hb => hc.below (by omega) hb) (fun _ _ hc => hc.size) (hold_rel ?_) ?_ ?_ rfl rfl ?_) ?_
    · intro p hp
      simp only [List.mem_cons, List.not_mem_nil, or_false] at hp
      rcases hp with rfl | rfl | rfl | rfl
      all_goals (intro u u' v hb hv; first | exact hv | exact BoxP.chgA hv hb (by omega) | exact RowP.chgA hv hb (by omega))
    · intro s hs hne u u' hb
      simp only [List.mem_cons, List.not_mem_nil, or_false] at hs
      rcases hs with rfl | rfl
      all_goals first | exact absurd (by rfl) hne | (refine ⟨fun h => ?_, fun _ h => ?_⟩ <;> first | exact h | exact Blk.chgA h hb (by omega) | exact StoP.chgA h hb (by omega) | exact StoR.chgA h hb (by omega) | exact StaR.chgA h hb (by omega) (by omega))
    · intro u u' hb hj
      obtain ⟨j0, j1⟩ := hj
      exact ⟨(j0.chgA hb (by omega)), (j1.chgA hb (by omega))⟩
    · intro a u hb hz hj hl hp K Q hK
      have e11 : a.tmps[11]?.getD undef = .pointer (some ⟨w.heap.size + 1 + 1 + 1, 0, none⟩) := gd (hl 11 (by kernel_rfl))
      have hBs : Blk u (w.heap.size + 1 + 1 + 1) 69 [.int .i64 0, .int .i64 0, .int .i64 0, .int .i64 0] := hp _ (List.mem_of_getElem? (i := 1) rfl) (by kernel_rfl)
      have gs0 : u.cell? ⟨w.heap.size + 1 + 1 + 1, 0, none⟩ = some (.int .i64 0) := (hBs.cell 0).trans rfl
      have gs1 : u.cell? ⟨w.heap.size + 1 + 1 + 1, 1, none⟩ = some (.int .i64 0) := (hBs.cell 1).trans rfl
      have gs2 : u.cell? ⟨w.heap.size + 1 + 1 + 1, 2, none⟩ = some (.int .i64 0) := (hBs.cell 2).trans rfl
      have gs3 : u.cell? ⟨w.heap.size + 1 + 1 + 1, 3, none⟩ = some (.int .i64 0) := (hBs.cell 3).trans rfl
      have f0 := hBs.frozen 0
      have f1 := hBs.frozen 1
      have f2 := hBs.frozen 2
      have f3 := hBs.frozen 3
      have e25 : a.tmps[25]?.getD undef = .agg #[.int .i64 base, .int .i64 size, .int .i64 head, .int .i64 tail] := gd (hl 25 (by kernel_rfl))
      go_simp
      refine hK undef _ (((((ChgA.refl _ _).set 0 _).set 1 _).set 2 _).set 3 _) (fun s hs he => ?_)
      simp only [List.mem_cons, List.not_mem_nil, or_false] at hs
      rcases hs with rfl | rfl
      · exact absurd (show (3 : Nat) = 4 from he) (by decide)
      · exact ((((hBs.set_ 0 _).set_ 1 _).set_ 2 _).set_ 3 _)
    refine allStep_cons (stepS_plain hGk hSk (by omega) hJk (by kernel_rfl) rfl ?_) ?_
    · intro a u hb hz hj hl hp K Q hK
      go_simp
      exact hK _ _ (Below.refl _ _) (by intro d hd; cases hd; exact rfl)
    exact allStep_nil
  intro x w2 hb hz hj hL hSt
  obtain ⟨hk0, hk1⟩ := hj
  have fx12 : x 12 = .bool false := hL _ (List.mem_of_getElem? (i := 3) rfl)
  obtain ⟨A_q, c_q, fy, hk2, o_q⟩ : StaR w1.heap.size (w.heap.size + 1 + 1) 39 9 1 n' (pg.flatMap fun x : ByteArray => [Value.string x]) (fun A c => .agg #[.slice A n' c]) (fun A c => [.slice A n' c]) w2 (x 24) := hSt _ (List.mem_of_getElem? (i := 0) rfl)
  clear fy
  have hk3 : Blk w2 (w.heap.size + 1 + 1 + 1) 69 [.int .i64 base, .int .i64 size, .int .i64 head, .int .i64 tail] := hSt _ (List.mem_of_getElem? (i := 1) rfl)
  simp only [List.map, putAll, fx12]
  have k2 : Below w.heap.size w w2 := k1.trans hb
  have p2 : w1.heap.size ≤ w2.heap.size := hb.size
  have bl0 := Nat.lt_of_lt_of_le bl0 hb.size
  have bl1 := Nat.lt_of_lt_of_le bl1 hb.size
  have bl2 := Nat.lt_of_lt_of_le bl2 hb.size
  have bl3 := Nat.lt_of_lt_of_le bl3 hb.size
  have r_a := r_a.below hb
  have r_b := r_b.below hb
  have r_q := Reads.of_own o_q
  have u_q := fun k hk => (o_q.lt k hk).2
  have bx0_0 : w2.cell? ⟨w.heap.size, 0, none⟩ = some (.slice A' n' c') := (hk0.cell 0).trans rfl
  have fz0_0 := hk0.frozen 0
  have bx1_0 : w2.cell? ⟨w.heap.size + 1, 0, none⟩ = some (.int .i64 base) := (hk1.cell 0).trans rfl
  have fz1_0 := hk1.frozen 0
  have bx1_1 : w2.cell? ⟨w.heap.size + 1, 1, none⟩ = some (.int .i64 size) := (hk1.cell 1).trans rfl
  have fz1_1 := hk1.frozen 1
  have bx1_2 : w2.cell? ⟨w.heap.size + 1, 2, none⟩ = some (.int .i64 head) := (hk1.cell 2).trans rfl
  have fz1_2 := hk1.frozen 2
  have bx1_3 : w2.cell? ⟨w.heap.size + 1, 3, none⟩ = some (.int .i64 tail) := (hk1.cell 3).trans rfl
  have fz1_3 := hk1.frozen 3
  have bx2_0 : w2.cell? ⟨w.heap.size + 1 + 1, 0, none⟩ = some (.slice A_q n' c_q) := (hk2.cell 0).trans rfl
  have fz2_0 := hk2.frozen 0
  have bx3_0 : w2.cell? ⟨w.heap.size + 1 + 1 + 1, 0, none⟩ = some (.int .i64 base) := (hk3.cell 0).trans rfl
  have fz3_0 := hk3.frozen 0
  have bx3_1 : w2.cell? ⟨w.heap.size + 1 + 1 + 1, 1, none⟩ = some (.int .i64 size) := (hk3.cell 1).trans rfl
  have fz3_1 := hk3.frozen 1
  have bx3_2 : w2.cell? ⟨w.heap.size + 1 + 1 + 1, 2, none⟩ = some (.int .i64 head) := (hk3.cell 2).trans rfl
  have fz3_2 := hk3.frozen 2
  have bx3_3 : w2.cell? ⟨w.heap.size + 1 + 1 + 1, 3, none⟩ = some (.int .i64 tail) := (hk3.cell 3).trans rfl
  have fz3_3 := hk3.frozen 3
  clear hL hSt hb hz fx12
  all_goals
    go_wp2
    refine bodyPost_ret (v := .tuple #[.agg #[.slice A_q n' c_q], .agg #[.int .i64 base, .int .i64 size, .int .i64 head, .int .i64 tail], .bool false]) (by simp [results, Try.results54, go_sem, bx2_0, bx3_0, bx3_1, bx3_2, bx3_3]) rfl ?_
    exact ⟨A_q, c_q, rfl, own_base o_q (by omega), k2⟩
set_option maxRecDepth 100000 in
set_option maxHeartbeats 2000000 in
theorem implRingPut_3 (A A' : Option Addr) (n c n' c' : Nat) (l : List Mapping) (pg : List ByteArray) (w : World) (hn_a : l.length = n) (hn_b : pg.length = n') (hs_a : n ≤ 1048576) (hs_b : n' ≤ 1048576) (r_a : Reads w w.heap.size 4 A n (l.flatMap Mapping.cells)) (r_b : Reads w w.heap.size 1 A' n' (pg.flatMap fun x : ByteArray => [Value.string x])) (d base size head tail : Int) (s : ByteArray) (hh : I64 head) (ht : I64 tail) (hsz : s.size ≤ 1048576) (hf2 : (freeI base size head tail == 0) = false) (h17 : ((s.size : Int) == 16) = true) (h18 : ((s.size : Int) != 16) = false) (hok : ringB base size head tail = true) (hd : dmaOk l pg d (slotI base size head tail tail) s.size true = false) :
    Calls Try.prog 54 #[.slice A n c, .agg #[.slice A' n' c'], .int .i64 d, .agg #[.int .i64 base, .int .i64 size, .int .i64 head, .int .i64 tail], .string s] w fun e w' => ∃ A2 c2, e = .returned (.tuple #[.agg #[.slice A2 n' c2], .agg #[.int .i64 base, .int .i64 size, .int .i64 head, .int .i64 tail], .bool false]) ∧ w'.ownsRow w.heap.size 9 1 (.slice A2 n' c2) n' (pg.flatMap fun x : ByteArray => [Value.string x]) ∧ Below w.heap.size w w' := by
  obtain ⟨b1, b2, b3, b4, b5, b6, b7, b8, b9⟩ := ringB_size hok
  have hp : (2 * size == 0) = false := by simp; omega
  have hsb := slotI_bd2 hok b7 (by omega)
  have hI1 : I64 (slotI base size head tail tail) := ⟨by omega, by omega⟩
  have m1 := Int.emod_nonneg (tail + 1) (show 2 * size ≠ 0 by omega)
  have m2 := Int.emod_lt_of_pos (tail + 1) (show 0 < 2 * size by omega)
  have HD := Lib.hid hd
  clear hsb hok
  have HW := Lib.hid (show dmaW l pg d (slotI base size head tail tail) s true = pg by rw [dmaW, runsD_nok hd]; rfl)
  clear hd
  go_enter Try.func54, Try.ntmps54
  go_wp2_with fail
  have k0 : Below w.heap.size w ((((w.alloc (.cells #[.slice A' n' c'] 39)).alloc (.cells #[.int .i64 base, .int .i64 size, .int .i64 head, .int .i64 tail] 69)).alloc (.cells #[.slice none 0 0] 39)).alloc (.cells #[.int .i64 0, .int .i64 0, .int .i64 0, .int .i64 0] 69)) := by go_grown
  have bx0_0 : ((((w.alloc (.cells #[.slice A' n' c'] 39)).alloc (.cells #[.int .i64 base, .int .i64 size, .int .i64 head, .int .i64 tail] 69)).alloc (.cells #[.slice none 0 0] 39)).alloc (.cells #[.int .i64 0, .int .i64 0, .int .i64 0, .int .i64 0] 69)).cell? ⟨w.heap.size, 0, none⟩ = some (.slice A' n' c') := by simp [go_sem]
  have bl0 : w.heap.size < ((((w.alloc (.cells #[.slice A' n' c'] 39)).alloc (.cells #[.int .i64 base, .int .i64 size, .int .i64 head, .int .i64 tail] 69)).alloc (.cells #[.slice none 0 0] 39)).alloc (.cells #[.int .i64 0, .int .i64 0, .int .i64 0, .int .i64 0] 69)).heap.size := by go_size
  have hk0 : Blk ((((w.alloc (.cells #[.slice A' n' c'] 39)).alloc (.cells #[.int .i64 base, .int .i64 size, .int .i64 head, .int .i64 tail] 69)).alloc (.cells #[.slice none 0 0] 39)).alloc (.cells #[.int .i64 0, .int .i64 0, .int .i64 0, .int .i64 0] 69)) (w.heap.size) 39 [.slice A' n' c'] := by simpa using (((Blk.new w 39 [.slice A' n' c']).alloc (.cells #[.int .i64 base, .int .i64 size, .int .i64 head, .int .i64 tail] 69)).alloc (.cells #[.slice none 0 0] 39)).alloc (.cells #[.int .i64 0, .int .i64 0, .int .i64 0, .int .i64 0] 69)
  have bx1_0 : ((((w.alloc (.cells #[.slice A' n' c'] 39)).alloc (.cells #[.int .i64 base, .int .i64 size, .int .i64 head, .int .i64 tail] 69)).alloc (.cells #[.slice none 0 0] 39)).alloc (.cells #[.int .i64 0, .int .i64 0, .int .i64 0, .int .i64 0] 69)).cell? ⟨w.heap.size + 1, 0, none⟩ = some (.int .i64 base) := by simp [go_sem]
  have bx1_1 : ((((w.alloc (.cells #[.slice A' n' c'] 39)).alloc (.cells #[.int .i64 base, .int .i64 size, .int .i64 head, .int .i64 tail] 69)).alloc (.cells #[.slice none 0 0] 39)).alloc (.cells #[.int .i64 0, .int .i64 0, .int .i64 0, .int .i64 0] 69)).cell? ⟨w.heap.size + 1, 1, none⟩ = some (.int .i64 size) := by simp [go_sem]
  have bx1_2 : ((((w.alloc (.cells #[.slice A' n' c'] 39)).alloc (.cells #[.int .i64 base, .int .i64 size, .int .i64 head, .int .i64 tail] 69)).alloc (.cells #[.slice none 0 0] 39)).alloc (.cells #[.int .i64 0, .int .i64 0, .int .i64 0, .int .i64 0] 69)).cell? ⟨w.heap.size + 1, 2, none⟩ = some (.int .i64 head) := by simp [go_sem]
  have bx1_3 : ((((w.alloc (.cells #[.slice A' n' c'] 39)).alloc (.cells #[.int .i64 base, .int .i64 size, .int .i64 head, .int .i64 tail] 69)).alloc (.cells #[.slice none 0 0] 39)).alloc (.cells #[.int .i64 0, .int .i64 0, .int .i64 0, .int .i64 0] 69)).cell? ⟨w.heap.size + 1, 3, none⟩ = some (.int .i64 tail) := by simp [go_sem]
  have bl1 : w.heap.size + 1 < ((((w.alloc (.cells #[.slice A' n' c'] 39)).alloc (.cells #[.int .i64 base, .int .i64 size, .int .i64 head, .int .i64 tail] 69)).alloc (.cells #[.slice none 0 0] 39)).alloc (.cells #[.int .i64 0, .int .i64 0, .int .i64 0, .int .i64 0] 69)).heap.size := by go_size
  have hk1 : Blk ((((w.alloc (.cells #[.slice A' n' c'] 39)).alloc (.cells #[.int .i64 base, .int .i64 size, .int .i64 head, .int .i64 tail] 69)).alloc (.cells #[.slice none 0 0] 39)).alloc (.cells #[.int .i64 0, .int .i64 0, .int .i64 0, .int .i64 0] 69)) (w.heap.size + 1) 69 [.int .i64 base, .int .i64 size, .int .i64 head, .int .i64 tail] := by simpa using ((Blk.new (w.alloc (.cells #[.slice A' n' c'] 39)) 69 [.int .i64 base, .int .i64 size, .int .i64 head, .int .i64 tail]).alloc (.cells #[.slice none 0 0] 39)).alloc (.cells #[.int .i64 0, .int .i64 0, .int .i64 0, .int .i64 0] 69)
  have bx2_0 : ((((w.alloc (.cells #[.slice A' n' c'] 39)).alloc (.cells #[.int .i64 base, .int .i64 size, .int .i64 head, .int .i64 tail] 69)).alloc (.cells #[.slice none 0 0] 39)).alloc (.cells #[.int .i64 0, .int .i64 0, .int .i64 0, .int .i64 0] 69)).cell? ⟨w.heap.size + 1 + 1, 0, none⟩ = some (.slice none 0 0) := by simp [go_sem]
  have bl2 : w.heap.size + 1 + 1 < ((((w.alloc (.cells #[.slice A' n' c'] 39)).alloc (.cells #[.int .i64 base, .int .i64 size, .int .i64 head, .int .i64 tail] 69)).alloc (.cells #[.slice none 0 0] 39)).alloc (.cells #[.int .i64 0, .int .i64 0, .int .i64 0, .int .i64 0] 69)).heap.size := by go_size
  have hk2 : Blk ((((w.alloc (.cells #[.slice A' n' c'] 39)).alloc (.cells #[.int .i64 base, .int .i64 size, .int .i64 head, .int .i64 tail] 69)).alloc (.cells #[.slice none 0 0] 39)).alloc (.cells #[.int .i64 0, .int .i64 0, .int .i64 0, .int .i64 0] 69)) (w.heap.size + 1 + 1) 39 [.slice none 0 0] := by simpa using (Blk.new ((w.alloc (.cells #[.slice A' n' c'] 39)).alloc (.cells #[.int .i64 base, .int .i64 size, .int .i64 head, .int .i64 tail] 69)) 39 [.slice none 0 0]).alloc (.cells #[.int .i64 0, .int .i64 0, .int .i64 0, .int .i64 0] 69)
  have bx3_0 : ((((w.alloc (.cells #[.slice A' n' c'] 39)).alloc (.cells #[.int .i64 base, .int .i64 size, .int .i64 head, .int .i64 tail] 69)).alloc (.cells #[.slice none 0 0] 39)).alloc (.cells #[.int .i64 0, .int .i64 0, .int .i64 0, .int .i64 0] 69)).cell? ⟨w.heap.size + 1 + 1 + 1, 0, none⟩ = some (.int .i64 0) := by simp [go_sem]
  have bx3_1 : ((((w.alloc (.cells #[.slice A' n' c'] 39)).alloc (.cells #[.int .i64 base, .int .i64 size, .int .i64 head, .int .i64 tail] 69)).alloc (.cells #[.slice none 0 0] 39)).alloc (.cells #[.int .i64 0, .int .i64 0, .int .i64 0, .int .i64 0] 69)).cell? ⟨w.heap.size + 1 + 1 + 1, 1, none⟩ = some (.int .i64 0) := by simp [go_sem]
  have bx3_2 : ((((w.alloc (.cells #[.slice A' n' c'] 39)).alloc (.cells #[.int .i64 base, .int .i64 size, .int .i64 head, .int .i64 tail] 69)).alloc (.cells #[.slice none 0 0] 39)).alloc (.cells #[.int .i64 0, .int .i64 0, .int .i64 0, .int .i64 0] 69)).cell? ⟨w.heap.size + 1 + 1 + 1, 2, none⟩ = some (.int .i64 0) := by simp [go_sem]
  have bx3_3 : ((((w.alloc (.cells #[.slice A' n' c'] 39)).alloc (.cells #[.int .i64 base, .int .i64 size, .int .i64 head, .int .i64 tail] 69)).alloc (.cells #[.slice none 0 0] 39)).alloc (.cells #[.int .i64 0, .int .i64 0, .int .i64 0, .int .i64 0] 69)).cell? ⟨w.heap.size + 1 + 1 + 1, 3, none⟩ = some (.int .i64 0) := by simp [go_sem]
  have bl3 : w.heap.size + 1 + 1 + 1 < ((((w.alloc (.cells #[.slice A' n' c'] 39)).alloc (.cells #[.int .i64 base, .int .i64 size, .int .i64 head, .int .i64 tail] 69)).alloc (.cells #[.slice none 0 0] 39)).alloc (.cells #[.int .i64 0, .int .i64 0, .int .i64 0, .int .i64 0] 69)).heap.size := by go_size
  have hk3 : Blk ((((w.alloc (.cells #[.slice A' n' c'] 39)).alloc (.cells #[.int .i64 base, .int .i64 size, .int .i64 head, .int .i64 tail] 69)).alloc (.cells #[.slice none 0 0] 39)).alloc (.cells #[.int .i64 0, .int .i64 0, .int .i64 0, .int .i64 0] 69)) (w.heap.size + 1 + 1 + 1) 69 [.int .i64 0, .int .i64 0, .int .i64 0, .int .i64 0] := by simpa using Blk.new (((w.alloc (.cells #[.slice A' n' c'] 39)).alloc (.cells #[.int .i64 base, .int .i64 size, .int .i64 head, .int .i64 tail] 69)).alloc (.cells #[.slice none 0 0] 39)) 69 [.int .i64 0, .int .i64 0, .int .i64 0, .int .i64 0]
  have r_a := r_a.below k0
  have r_b := r_b.below k0
  have p0 := k0.size
  generalize hW0 : ((((w.alloc (.cells #[.slice A' n' c'] 39)).alloc (.cells #[.int .i64 base, .int .i64 size, .int .i64 head, .int .i64 tail] 69)).alloc (.cells #[.slice none 0 0] 39)).alloc (.cells #[.int .i64 0, .int .i64 0, .int .i64 0, .int .i64 0] 69)) = w0 at *
  clear hW0
  have bx0_0 : w0.cell? ⟨w.heap.size, 0, none⟩ = some (.slice A' n' c') := (hk0.cell 0).trans rfl
  have fz0_0 := hk0.frozen 0
  have bx1_0 : w0.cell? ⟨w.heap.size + 1, 0, none⟩ = some (.int .i64 base) := (hk1.cell 0).trans rfl
  have fz1_0 := hk1.frozen 0
  have bx1_1 : w0.cell? ⟨w.heap.size + 1, 1, none⟩ = some (.int .i64 size) := (hk1.cell 1).trans rfl
  have fz1_1 := hk1.frozen 1
  have bx1_2 : w0.cell? ⟨w.heap.size + 1, 2, none⟩ = some (.int .i64 head) := (hk1.cell 2).trans rfl
  have fz1_2 := hk1.frozen 2
  have bx1_3 : w0.cell? ⟨w.heap.size + 1, 3, none⟩ = some (.int .i64 tail) := (hk1.cell 3).trans rfl
  have fz1_3 := hk1.frozen 3
  have bx2_0 : w0.cell? ⟨w.heap.size + 1 + 1, 0, none⟩ = some (.slice none 0 0) := (hk2.cell 0).trans rfl
  have fz2_0 := hk2.frozen 0
  have bx3_0 : w0.cell? ⟨w.heap.size + 1 + 1 + 1, 0, none⟩ = some (.int .i64 0) := (hk3.cell 0).trans rfl
  have fz3_0 := hk3.frozen 0
  have bx3_1 : w0.cell? ⟨w.heap.size + 1 + 1 + 1, 1, none⟩ = some (.int .i64 0) := (hk3.cell 1).trans rfl
  have fz3_1 := hk3.frozen 1
  have bx3_2 : w0.cell? ⟨w.heap.size + 1 + 1 + 1, 2, none⟩ = some (.int .i64 0) := (hk3.cell 2).trans rfl
  have fz3_2 := hk3.frozen 2
  have bx3_3 : w0.cell? ⟨w.heap.size + 1 + 1 + 1, 3, none⟩ = some (.int .i64 0) := (hk3.cell 3).trans rfl
  have fz3_3 := hk3.frozen 3
  refine (implRingFree_c _ _ _ _ _ hh ht).mono ?_
  rintro e w1 ⟨rfl, hb⟩
  have k1 : Below w.heap.size w w1 := ext_step k0 (by omega) hb
  have p1 := hb.size
  have hk0 := hk0.ext hb
  have hk1 := hk1.ext hb
  have hk2 := hk2.ext hb
  have hk3 := hk3.ext hb
  have bx0_0 : w1.cell? ⟨w.heap.size, 0, none⟩ = some (.slice A' n' c') := (hk0.cell 0).trans rfl
  have fz0_0 := hk0.frozen 0
  have bx1_0 : w1.cell? ⟨w.heap.size + 1, 0, none⟩ = some (.int .i64 base) := (hk1.cell 0).trans rfl
  have fz1_0 := hk1.frozen 0
  have bx1_1 : w1.cell? ⟨w.heap.size + 1, 1, none⟩ = some (.int .i64 size) := (hk1.cell 1).trans rfl
  have fz1_1 := hk1.frozen 1
  have bx1_2 : w1.cell? ⟨w.heap.size + 1, 2, none⟩ = some (.int .i64 head) := (hk1.cell 2).trans rfl
  have fz1_2 := hk1.frozen 2
  have bx1_3 : w1.cell? ⟨w.heap.size + 1, 3, none⟩ = some (.int .i64 tail) := (hk1.cell 3).trans rfl
  have fz1_3 := hk1.frozen 3
  have bx2_0 : w1.cell? ⟨w.heap.size + 1 + 1, 0, none⟩ = some (.slice none 0 0) := (hk2.cell 0).trans rfl
  have fz2_0 := hk2.frozen 0
  have bx3_0 : w1.cell? ⟨w.heap.size + 1 + 1 + 1, 0, none⟩ = some (.int .i64 0) := (hk3.cell 0).trans rfl
  have fz3_0 := hk3.frozen 0
  have bx3_1 : w1.cell? ⟨w.heap.size + 1 + 1 + 1, 1, none⟩ = some (.int .i64 0) := (hk3.cell 1).trans rfl
  have fz3_1 := hk3.frozen 1
  have bx3_2 : w1.cell? ⟨w.heap.size + 1 + 1 + 1, 2, none⟩ = some (.int .i64 0) := (hk3.cell 2).trans rfl
  have fz3_2 := hk3.frozen 2
  have bx3_3 : w1.cell? ⟨w.heap.size + 1 + 1 + 1, 3, none⟩ = some (.int .i64 0) := (hk3.cell 3).trans rfl
  have fz3_3 := hk3.frozen 3
  have bl0 := Nat.lt_of_lt_of_le bl0 hb.size
  have bl1 := Nat.lt_of_lt_of_le bl1 hb.size
  have bl2 := Nat.lt_of_lt_of_le bl2 hb.size
  have bl3 := Nat.lt_of_lt_of_le bl3 hb.size
  have r_a := r_a.below (hb.mono (by omega))
  have r_b := r_b.below (hb.mono (by omega))
  clear hb
  go_wp2_with fail
  refine wp_region_slotsS (w.heap.size) [(27, fun _ v => v = .slice A n c), (28, fun _ v => v = .agg #[.slice A' n' c']), (29, fun _ v => v = .int .i64 d), (30, fun _ v => v = .agg #[.int .i64 base, .int .i64 size, .int .i64 head, .int .i64 tail]), (31, fun _ v => v = .pointer (some ⟨w.heap.size + 1, 3, none⟩)), (32, fun _ v => v = .int .i64 tail), (33, fun _ v => v = .int .i64 (slotI base size head tail tail)), (34, fun _ v => v = .string s), (35, RowP w1.heap.size 9 1 n' ((dmaW l pg d (slotI base size head tail tail) s true).flatMap fun x : ByteArray => [Value.string x]) (fun A c => .tuple #[.agg #[.slice A n' c], .bool (dmaOk l pg d (slotI base size head tail tail) s.size true)])), (26, RowP w1.heap.size 9 1 n' ((dmaW l pg d (slotI base size head tail tail) s true).flatMap fun x : ByteArray => [Value.string x]) (fun A c => .tuple #[.agg #[.slice A n' c], .bool (dmaOk l pg d (slotI base size head tail tail) s.size true)])), (36, RowP w1.heap.size 9 1 n' ((dmaW l pg d (slotI base size head tail tail) s true).flatMap fun x : ByteArray => [Value.string x]) (fun A c => .agg #[.slice A n' c])), (37, fun _ v => v = .bool (dmaOk l pg d (slotI base size head tail tail) s.size true)), (13, BoxP w1.heap.size 39 1), (14, fun _ v => v = .bool (dmaOk l pg d (slotI base size head tail tail) s.size true))] [⟨13, 13, fun _ => True, StoR w1.heap.size 39 9 1 n' ((dmaW l pg d (slotI base size head tail tail) s true).flatMap fun x : ByteArray => [Value.string x]) (fun A c => [.slice A n' c])⟩] (fun u => Blk u (w.heap.size) 39 [.slice A' n' c'] ∧ Blk u (w.heap.size + 1) 69 [.int .i64 base, .int .i64 size, .int .i64 head, .int .i64 tail] ∧ Blk u (w.heap.size + 1 + 1) 39 [.slice none 0 0] ∧ Blk u (w.heap.size + 1 + 1 + 1) 69 [.int .i64 0, .int .i64 0, .int .i64 0, .int .i64 0]) (by kernel_rfl) (by omega) (by kernel_rfl) (by kernel_rfl) (by kernel_rfl) (by kernel_rfl) ?_ ?_ ?_ ?_ ?_ ?_ ?_
  · intro p hp
    simp only [List.mem_cons, List.not_mem_nil, or_false] at hp
    rcases hp with rfl | rfl | rfl | rfl | rfl | rfl | rfl | rfl | rfl | rfl | rfl | rfl | rfl | rfl
    all_goals (intro u u' v hb hv; first | exact hv | exact BoxP.keep hv hb | exact RowP.keep hv hb)
  · intro s hs u u' hb
    simp only [List.mem_cons, List.not_mem_nil, or_false] at hs
    rcases hs with rfl
    all_goals (refine ⟨fun h => ?_, fun _ h => ?_⟩ <;> first | exact h | exact StoP.keep h hb | exact StoR.keep h hb | exact Blk.ext h hb | exact StaR.keep h hb)
  · intro s hs
    simp only [List.mem_cons, List.not_mem_nil, or_false] at hs
    rcases hs with rfl
    all_goals first | trivial
  · exact ⟨hk0, hk1, hk2, hk3⟩
  · intro u u' hb hj
    obtain ⟨j0, j1, j2, j3⟩ := hj
    exact ⟨(j0.ext hb), (j1.ext hb), (j2.ext hb), (j3.ext hb)⟩
  · intro hGk hSk hJk
    refine allStep_cons (stepS_plain hGk hSk (by omega) hJk (by kernel_rfl) rfl ?_) ?_
    · intro a u hb hz hj hl hp K Q hK
      have e0 : a.tmps[0]?.getD undef = .slice A n c := gd (hl 0 (by kernel_rfl))
      go_simp
      exact hK _ _ (Below.refl _ _) (by intro d hd; cases hd; exact rfl)
    refine allStep_cons (stepS_plain hGk hSk (by omega) hJk (by kernel_rfl) rfl ?_) ?_
    · intro a u hb hz hj hl hp K Q hK
      have e6 : a.tmps[6]?.getD undef = .pointer (some ⟨w.heap.size, 0, none⟩) := gd (hl 6 (by kernel_rfl))
      obtain ⟨j0, j1, j2, j3⟩ := hj
      have hBb := j0
      have gb0 : u.cell? ⟨w.heap.size, 0, none⟩ = some (.slice A' n' c') := (hBb.cell 0).trans rfl
      go_simp
      exact hK _ _ (Below.refl _ _) (by intro d hd; cases hd; exact rfl)
    refine allStep_cons (stepS_plain hGk hSk (by omega) hJk (by kernel_rfl) rfl ?_) ?_
    · intro a u hb hz hj hl hp K Q hK
      have e2 : a.tmps[2]?.getD undef = .int .i64 d := gd (hl 2 (by kernel_rfl))
      go_simp
      exact hK _ _ (Below.refl _ _) (by intro d hd; cases hd; exact rfl)
    refine allStep_cons (stepS_plain hGk hSk (by omega) hJk (by kernel_rfl) rfl ?_) ?_
    · intro a u hb hz hj hl hp K Q hK
      have e8 : a.tmps[8]?.getD undef = .pointer (some ⟨w.heap.size + 1, 0, none⟩) := gd (hl 8 (by kernel_rfl))
      obtain ⟨j0, j1, j2, j3⟩ := hj
      have hBb := j1
      have gb0 : u.cell? ⟨w.heap.size + 1, 0, none⟩ = some (.int .i64 base) := (hBb.cell 0).trans rfl
      have gb1 : u.cell? ⟨w.heap.size + 1, 1, none⟩ = some (.int .i64 size) := (hBb.cell 1).trans rfl
      have gb2 : u.cell? ⟨w.heap.size + 1, 2, none⟩ = some (.int .i64 head) := (hBb.cell 2).trans rfl
      have gb3 : u.cell? ⟨w.heap.size + 1, 3, none⟩ = some (.int .i64 tail) := (hBb.cell 3).trans rfl
      go_simp
      exact hK _ _ (Below.refl _ _) (by intro d hd; cases hd; exact rfl)
    refine allStep_cons (stepS_plain hGk hSk (by omega) hJk (by kernel_rfl) rfl ?_) ?_
    · intro a u hb hz hj hl hp K Q hK
      have e8 : a.tmps[8]?.getD undef = .pointer (some ⟨w.heap.size + 1, 0, none⟩) := gd (hl 8 (by kernel_rfl))
      go_simp
      exact hK _ _ (Below.refl _ _) (by intro d hd; cases hd; exact rfl)
    refine allStep_cons (stepS_plain hGk hSk (by omega) hJk (by kernel_rfl) rfl ?_) ?_
    · intro a u hb hz hj hl hp K Q hK
      have e31 : a.tmps[31]?.getD undef = .pointer (some ⟨w.heap.size + 1, 3, none⟩) := gd (hl 31 (by kernel_rfl))
      obtain ⟨j0, j1, j2, j3⟩ := hj
      have hBb := j1
      have gb3 : u.cell? ⟨w.heap.size + 1, 3, none⟩ = some (.int .i64 tail) := (hBb.cell 3).trans rfl
      go_simp
      exact hK _ _ (Below.refl _ _) (by intro d hd; cases hd; exact rfl)
    refine allStep_cons (stepS_plain hGk hSk (by omega) hJk (by kernel_rfl) rfl ?_) ?_
    · intro a u hb hz hj hl hp K Q hK
      have e30 : a.tmps[30]?.getD undef = .agg #[.int .i64 base, .int .i64 size, .int .i64 head, .int .i64 tail] := gd (hl 30 (by kernel_rfl))
      have e32 : a.tmps[32]?.getD undef = .int .i64 tail := gd (hl 32 (by kernel_rfl))
      go_simp
      refine (implSlotAddress_c _ _ _ _ _ _ hh ht ht).mono ?_
      rintro e u1 ⟨rfl, hb1⟩
      exact hK _ _ hb1 (by intro d hd; cases hd; exact rfl)
    refine allStep_cons (stepS_plain hGk hSk (by omega) hJk (by kernel_rfl) rfl ?_) ?_
    · intro a u hb hz hj hl hp K Q hK
      have e4 : a.tmps[4]?.getD undef = .string s := gd (hl 4 (by kernel_rfl))
      go_simp
      exact hK _ _ (Below.refl _ _) (by intro d hd; cases hd; exact rfl)
    refine allStep_cons (stepS_plain hGk hSk (by omega) hJk (by kernel_rfl) rfl ?_) ?_
    · intro a u hb hz hj hl hp K Q hK
      have e27 : a.tmps[27]?.getD undef = .slice A n c := gd (hl 27 (by kernel_rfl))
      have e28 : a.tmps[28]?.getD undef = .agg #[.slice A' n' c'] := gd (hl 28 (by kernel_rfl))
      have e29 : a.tmps[29]?.getD undef = .int .i64 d := gd (hl 29 (by kernel_rfl))
      have e33 : a.tmps[33]?.getD undef = .int .i64 (slotI base size head tail tail) := gd (hl 33 (by kernel_rfl))
      have e34 : a.tmps[34]?.getD undef = .string s := gd (hl 34 (by kernel_rfl))
      go_simp
      refine (implDmaWrite_c _ _ _ _ _ _ l pg _ hn_a hn_b hs_a hs_b ((r_a.below (hb.mono (by omega))).more (by omega)) ((r_b.below (hb.mono (by omega))).more (by omega)) _ _ _ hI1 hsz).mono ?_
      rintro e u1 ⟨A_v, c_v, rfl, o_v, hb1⟩
      exact hK _ _ hb1 (by intro d hd; cases hd; exact ⟨A_v, c_v, rfl, own_base o_v (by omega)⟩)
    refine allStep_cons (stepS_plain hGk hSk (by omega) hJk (by kernel_rfl) rfl ?_) ?_
    · intro a u hb hz hj hl hp K Q hK
      obtain ⟨A1, c1, ex35, o1⟩ : RowP w1.heap.size 9 1 n' ((dmaW l pg d (slotI base size head tail tail) s true).flatMap fun x : ByteArray => [Value.string x]) (fun A c => .tuple #[.agg #[.slice A n' c], .bool (dmaOk l pg d (slotI base size head tail tail) s.size true)]) u (a.tmps.getD 35 undef) := hl 35 (by kernel_rfl)
      have e35 := gd ex35
      go_simp
      exact hK _ _ (Below.refl _ _) (by intro d hd; cases hd; exact ⟨A1, c1, rfl, o1⟩)
    refine allStep_cons (stepS_plain hGk hSk (by omega) hJk (by kernel_rfl) rfl ?_) ?_
    · intro a u hb hz hj hl hp K Q hK
      obtain ⟨A1, c1, ex26, o1⟩ : RowP w1.heap.size 9 1 n' ((dmaW l pg d (slotI base size head tail tail) s true).flatMap fun x : ByteArray => [Value.string x]) (fun A c => .tuple #[.agg #[.slice A n' c], .bool (dmaOk l pg d (slotI base size head tail tail) s.size true)]) u (a.tmps.getD 26 undef) := hl 26 (by kernel_rfl)
      have e26 := gd ex26
      go_simp
      exact hK _ _ (Below.refl _ _) (by intro d hd; cases hd; exact ⟨A1, c1, rfl, o1⟩)
    refine allStep_cons (stepS_plain hGk hSk (by omega) hJk (by kernel_rfl) rfl ?_) ?_
    · intro a u hb hz hj hl hp K Q hK
      obtain ⟨A1, c1, ex26, o1⟩ : RowP w1.heap.size 9 1 n' ((dmaW l pg d (slotI base size head tail tail) s true).flatMap fun x : ByteArray => [Value.string x]) (fun A c => .tuple #[.agg #[.slice A n' c], .bool (dmaOk l pg d (slotI base size head tail tail) s.size true)]) u (a.tmps.getD 26 undef) := hl 26 (by kernel_rfl)
      have e26 := gd ex26
      go_simp
      exact hK _ _ (Below.refl _ _) (by intro d hd; cases hd; exact rfl)
    refine allStep_cons (stepS_plain hGk hSk (by omega) hJk (by kernel_rfl) rfl ?_) ?_
    · intro a u hb hz hj hl hp K Q hK
      go_simp
      exact hK _ _ (by go_grown) (by intro d hd; cases hd; exact BoxP.new _ _ [.slice none 0 0] (by omega) rfl)
    refine allStep_cons (stepS_store (Chg w1.heap.size 39) (fun _ _ hc hb => hc.below' (by omega) hb) (fun _ _ hc => hc.size) (hold_rel ?_) ?_ ?_ rfl rfl ?_) ?_
    · intro p hp
      simp only [List.mem_cons, List.not_mem_nil, or_false] at hp
      rcases hp with rfl | rfl | rfl | rfl | rfl | rfl | rfl | rfl | rfl | rfl | rfl | rfl | rfl | rfl
      all_goals (intro u u' v hb hv; first | exact hv | exact BoxP.chg hv hb | exact RowP.chg hv hb (by decide))
    · intro s hs hne u u' hb
      simp only [List.mem_cons, List.not_mem_nil, or_false] at hs
      rcases hs with rfl
      all_goals first | exact absurd (by rfl) hne | (refine ⟨fun h => ?_, fun _ h => ?_⟩ <;> first | exact h | exact StoP.chg h hb (by decide) | exact StoR.chg h hb (by decide) (by decide) | exact Blk.chgL h hb (by omega) | exact StaR.chgL h hb (by omega) (by decide))
    · intro u u' hb hj
      obtain ⟨j0, j1, j2, j3⟩ := hj
      exact ⟨(j0.chgL hb (by omega)), (j1.chgL hb (by omega)), (j2.chgL hb (by omega)), (j3.chgL hb (by omega))⟩
    · intro a u hb hz hj hl hp K Q hK
      obtain ⟨b, exb, hB, zs, hzl, hbk⟩ : BoxP w1.heap.size 39 1 u (a.tmps.getD 13 undef) := hl 13 (by kernel_rfl)
      have e13 := gd exb
      obtain ⟨A2, c2, ex36, o2⟩ : RowP w1.heap.size 9 1 n' ((dmaW l pg d (slotI base size head tail tail) s true).flatMap fun x : ByteArray => [Value.string x]) (fun A c => .agg #[.slice A n' c]) u (a.tmps.getD 36 undef) := hl 36 (by kernel_rfl)
      have e36 := gd ex36
      obtain ⟨z0, rfl⟩ : ∃ z0, zs = [z0] := (by match zs, hzl with | [z0], _ => exact ⟨_, rfl⟩)
      have hlt := hbk.lt
      have g0 : u.cell? ⟨b, 0, none⟩ = some z0 := (hbk.cell 0).trans rfl
      have f0 := hbk.frozen 0
      go_simp
      refine hK undef _ ((Chg.refl _ _ _).set hbk hB 0 _) (fun s hs he => ?_)
      simp only [List.mem_cons, List.not_mem_nil, or_false] at hs
      rcases hs with rfl
      · exact ⟨b, A2, c2, exb, hB, (hbk.set_ 0 _), own_chg o2 ((Chg.refl _ _ _).set hbk hB 0 _) (by decide)⟩
    refine allStep_cons (stepS_plain hGk hSk (by omega) hJk (by kernel_rfl) rfl ?_) ?_
    · intro a u hb hz hj hl hp K Q hK
      have e37 : a.tmps[37]?.getD undef = .bool (dmaOk l pg d (slotI base size head tail tail) s.size true) := gd (hl 37 (by kernel_rfl))
      go_simp
      exact hK _ _ (Below.refl _ _) (by intro d hd; cases hd; exact rfl)
    exact allStep_nil
  intro x w2 hb hz hj hL hSt
  obtain ⟨hk0, hk1, hk2, hk3⟩ := hj
  have fx14 : x 14 = .bool (dmaOk l pg d (slotI base size head tail tail) s.size true) := hL _ (List.mem_of_getElem? (i := 13) rfl)
  obtain ⟨bk_4, A_v, c_v, fx13, lo4, hk4, o_v⟩ : StoR w1.heap.size 39 9 1 n' ((dmaW l pg d (slotI base size head tail tail) s true).flatMap fun x : ByteArray => [Value.string x]) (fun A c => [.slice A n' c]) w2 (x 13) := hSt _ (List.mem_of_getElem? (i := 0) rfl)
  simp only [List.map, putAll, fx14, fx13]
  have bl4 := hk4.lt
  have k2 : Below w.heap.size w w2 := k1.trans hb
  have p2 : w1.heap.size ≤ w2.heap.size := hb.size
  have bl0 := Nat.lt_of_lt_of_le bl0 hb.size
  have bl1 := Nat.lt_of_lt_of_le bl1 hb.size
  have bl2 := Nat.lt_of_lt_of_le bl2 hb.size
  have bl3 := Nat.lt_of_lt_of_le bl3 hb.size
  have r_a := r_a.below hb
  have r_b := r_b.below hb
  have nb_v_4 := own_ty o_v hk4 (by decide)
  have r_v := Reads.of_own o_v
  have u_v := fun k hk => (o_v.lt k hk).2
  have bx0_0 : w2.cell? ⟨w.heap.size, 0, none⟩ = some (.slice A' n' c') := (hk0.cell 0).trans rfl
  have fz0_0 := hk0.frozen 0
  have bx1_0 : w2.cell? ⟨w.heap.size + 1, 0, none⟩ = some (.int .i64 base) := (hk1.cell 0).trans rfl
  have fz1_0 := hk1.frozen 0
  have bx1_1 : w2.cell? ⟨w.heap.size + 1, 1, none⟩ = some (.int .i64 size) := (hk1.cell 1).trans rfl
  have fz1_1 := hk1.frozen 1
  have bx1_2 : w2.cell? ⟨w.heap.size + 1, 2, none⟩ = some (.int .i64 head) := (hk1.cell 2).trans rfl
  have fz1_2 := hk1.frozen 2
  have bx1_3 : w2.cell? ⟨w.heap.size + 1, 3, none⟩ = some (.int .i64 tail) := (hk1.cell 3).trans rfl
  have fz1_3 := hk1.frozen 3
  have bx2_0 : w2.cell? ⟨w.heap.size + 1 + 1, 0, none⟩ = some (.slice none 0 0) := (hk2.cell 0).trans rfl
  have fz2_0 := hk2.frozen 0
  have bx3_0 : w2.cell? ⟨w.heap.size + 1 + 1 + 1, 0, none⟩ = some (.int .i64 0) := (hk3.cell 0).trans rfl
  have fz3_0 := hk3.frozen 0
  have bx3_1 : w2.cell? ⟨w.heap.size + 1 + 1 + 1, 1, none⟩ = some (.int .i64 0) := (hk3.cell 1).trans rfl
  have fz3_1 := hk3.frozen 1
  have bx3_2 : w2.cell? ⟨w.heap.size + 1 + 1 + 1, 2, none⟩ = some (.int .i64 0) := (hk3.cell 2).trans rfl
  have fz3_2 := hk3.frozen 2
  have bx3_3 : w2.cell? ⟨w.heap.size + 1 + 1 + 1, 3, none⟩ = some (.int .i64 0) := (hk3.cell 3).trans rfl
  have fz3_3 := hk3.frozen 3
  have bx4_0 : w2.cell? ⟨bk_4, 0, none⟩ = some (.slice A_v n' c_v) := (hk4.cell 0).trans rfl
  have fz4_0 := hk4.frozen 0
  clear hL hSt hb hz fx14 fx13
  rw [HD.out]
  rw [HW.out] at o_v r_v
  go_wp2_with fail
  refine wp_region_slotsS (w.heap.size) [(40, fun _ v => v = .agg #[.slice A_v n' c_v]), (41, fun _ v => v = .agg #[.int .i64 base, .int .i64 size, .int .i64 head, .int .i64 tail]), (12, fun _ v => v = .bool false)] [⟨2, 40, fun u => Blk u (w.heap.size + 1 + 1) 39 [.slice none 0 0], fun u _ => Blk u (w.heap.size + 1 + 1) 39 [.slice A_v n' c_v]⟩, ⟨3, 41, fun u => Blk u (w.heap.size + 1 + 1 + 1) 69 [.int .i64 0, .int .i64 0, .int .i64 0, .int .i64 0], fun u _ => Blk u (w.heap.size + 1 + 1 + 1) 69 [.int .i64 base, .int .i64 size, .int .i64 head, .int .i64 tail]⟩] (fun u => Blk u (w.heap.size) 39 [.slice A' n' c'] ∧ Blk u (w.heap.size + 1) 69 [.int .i64 base, .int .i64 size, .int .i64 head, .int .i64 tail] ∧ Blk u (bk_4) 39 [.slice A_v n' c_v] ∧ u.ownsRow (w1.heap.size) 9 1 (.slice A_v n' c_v) n' (pg.flatMap fun x : ByteArray => [Value.string x])) (by kernel_rfl) (by omega) (by kernel_rfl) (by kernel_rfl) (by kernel_rfl) (by kernel_rfl) ?_ ?_ ?_ ?_ ?_ ?_ ?_
  · intro p hp
    simp only [List.mem_cons, List.not_mem_nil, or_false] at hp
    rcases hp with rfl | rfl | rfl
    all_goals (intro u u' v hb hv; first | exact hv | exact BoxP.keep hv hb | exact RowP.keep hv hb)
  · intro s hs u u' hb
    simp only [List.mem_cons, List.not_mem_nil, or_false] at hs
    rcases hs with rfl | rfl
    all_goals (refine ⟨fun h => ?_, fun _ h => ?_⟩ <;> first | exact h | exact StoP.keep h hb | exact StoR.keep h hb | exact Blk.ext h hb | exact StaR.keep h hb)
  · intro s hs
    simp only [List.mem_cons, List.not_mem_nil, or_false] at hs
    rcases hs with rfl | rfl
    all_goals first | trivial | exact hk2 | exact hk3
  · exact ⟨hk0, hk1, hk4, o_v⟩
  · intro u u' hb hj
    obtain ⟨j0, j1, j2, j3⟩ := hj
    exact ⟨(j0.ext hb), (j1.ext hb), (j2.ext hb), (own_ext j3 hb)⟩
  · intro hGk hSk hJk
    refine allStep_cons (stepS_plain hGk hSk (by omega) hJk (by kernel_rfl) rfl ?_) ?_
    · intro a u hb hz hj hl hp K Q hK
      have e13 : a.tmps[13]?.getD undef = .pointer (some ⟨bk_4, 0, none⟩) := gd (hl 13 (by kernel_rfl))
      obtain ⟨j0, j1, j2, j3⟩ := hj
      have hBb := j2
      have gb0 : u.cell? ⟨bk_4, 0, none⟩ = some (.slice A_v n' c_v) := (hBb.cell 0).trans rfl
      go_simp
      exact hK _ _ (Below.refl _ _) (by intro d hd; cases hd; exact rfl)
    refine allStep_cons (stepS_plain hGk hSk (by omega) hJk (by kernel_rfl) rfl ?_) ?_
    · intro a u hb hz hj hl hp K Q hK
      have e8 : a.tmps[8]?.getD undef = .pointer (some ⟨w.heap.size + 1, 0, none⟩) := gd (hl 8 (by kernel_rfl))
      obtain ⟨j0, j1, j2, j3⟩ := hj
      have hBb := j1
      have gb0 : u.cell? ⟨w.heap.size + 1, 0, none⟩ = some (.int .i64 base) := (hBb.cell 0).trans rfl
      have gb1 : u.cell? ⟨w.heap.size + 1, 1, none⟩ = some (.int .i64 size) := (hBb.cell 1).trans rfl
      have gb2 : u.cell? ⟨w.heap.size + 1, 2, none⟩ = some (.int .i64 head) := (hBb.cell 2).trans rfl
      have gb3 : u.cell? ⟨w.heap.size + 1, 3, none⟩ = some (.int .i64 tail) := (hBb.cell 3).trans rfl
      go_simp
      exact hK _ _ (Below.refl _ _) (by intro d hd; cases hd; exact rfl)
    refine allStep_cons (stepS_store (ChgA (w.heap.size + 1 + 1)) (fun _ _ hc hb => hc.below (by omega) hb) (fun _ _ hc => hc.size) (hold_rel ?_) ?_ ?_ rfl rfl ?_) ?_
    · intro p hp
      simp only [List.mem_cons, List.not_mem_nil, or_false] at hp
      rcases hp with rfl | rfl | rfl
      all_goals (intro u u' v hb hv; first | exact hv | exact BoxP.chgA hv hb (by omega) | exact RowP.chgA hv hb (by omega))
    · intro s hs hne u u' hb
      simp only [List.mem_cons, List.not_mem_nil, or_false] at hs
      rcases hs with rfl | rfl
      all_goals first | exact absurd (by rfl) hne | (refine ⟨fun h => ?_, fun _ h => ?_⟩ <;> first | exact h | exact Blk.chgA h hb (by omega) | exact StoP.chgA h hb (by omega) | exact StoR.chgA h hb (by omega) | exact StaR.chgA h hb (by omega) (by omega))
    · intro u u' hb hj
      obtain ⟨j0, j1, j2, j3⟩ := hj
      exact ⟨(j0.chgA hb (by omega)), (j1.chgA hb (by omega)), (j2.chgA hb (by omega)), (own_chgA j3 hb (fun k hk => by have h1 := o_v.lt k hk; omega))⟩
    · intro a u hb hz hj hl hp K Q hK
      have e10 : a.tmps[10]?.getD undef = .pointer (some ⟨w.heap.size + 1 + 1, 0, none⟩) := gd (hl 10 (by kernel_rfl))
      have hBs : Blk u (w.heap.size + 1 + 1) 39 [.slice none 0 0] := hp _ (List.mem_of_getElem? (i := 0) rfl) (by kernel_rfl)
      have gs0 : u.cell? ⟨w.heap.size + 1 + 1, 0, none⟩ = some (.slice none 0 0) := (hBs.cell 0).trans rfl
      have f0 := hBs.frozen 0
      have e40 : a.tmps[40]?.getD undef = .agg #[.slice A_v n' c_v] := gd (hl 40 (by kernel_rfl))
      go_simp
      refine hK undef _ ((ChgA.refl _ _).set 0 _) (fun s hs he => ?_)
      simp only [List.mem_cons, List.not_mem_nil, or_false] at hs
      rcases hs with rfl | rfl
      · exact (hBs.set_ 0 _)
      · exact absurd (show (3 : Nat) = 2 from he) (by decide)
    refine allStep_cons (stepS_store (ChgA (w.heap.size + 1 + 1 + 1)) (fun _ _ hc hb => hc.below (by omega) hb) (fun _ _ hc => hc.size) (hold_rel ?_) ?_ ?_ rfl rfl ?_) ?_
    · intro p hp
      simp only [List.mem_cons, List.not_mem_nil, or_false] at hp
      rcases hp with rfl | rfl | rfl
      all_goals (intro u u' v hb hv; first | exact hv | exact BoxP.chgA hv hb (by omega) | exact RowP.chgA hv hb (by omega))
    · intro s hs hne u u' hb
      simp only [List.mem_cons, List.not_mem_nil, or_false] at hs
      rcases hs with rfl | rfl
      all_goals first | exact absurd (by rfl) hne | (refine ⟨fun h => ?_, fun _ h => ?_⟩ <;> first | exact h | exact Blk.chgA h hb (by omega) | exact StoP.chgA h hb (by omega) | exact StoR.chgA h hb (by omega) | exact StaR.chgA h hb (by omega) (by omega))
    · intro u u' hb hj
      obtain ⟨j0, j1, j2, j3⟩ := hj
      exact ⟨(j0.chgA hb (by omega)), (j1.chgA hb (by omega)), (j2.chgA hb (by omega)), (own_chgA j3 hb (fun k hk => by have h1 := o_v.lt k hk; omega))⟩
    · intro a u hb hz hj hl hp K Q hK
      have e11 : a.tmps[11]?.getD undef = .pointer (some ⟨w.heap.size + 1 + 1 + 1, 0, none⟩) := gd (hl 11 (by kernel_rfl))
      have hBs : Blk u (w.heap.size + 1 + 1 + 1) 69 [.int .i64 0, .int .i64 0, .int .i64 0, .int .i64 0] := hp _ (List.mem_of_getElem? (i := 1) rfl) (by kernel_rfl)
      have gs0 : u.cell? ⟨w.heap.size + 1 + 1 + 1, 0, none⟩ = some (.int .i64 0) := (hBs.cell 0).trans rfl
      have gs1 : u.cell? ⟨w.heap.size + 1 + 1 + 1, 1, none⟩ = some (.int .i64 0) := (hBs.cell 1).trans rfl
      have gs2 : u.cell? ⟨w.heap.size + 1 + 1 + 1, 2, none⟩ = some (.int .i64 0) := (hBs.cell 2).trans rfl
      have gs3 : u.cell? ⟨w.heap.size + 1 + 1 + 1, 3, none⟩ = some (.int .i64 0) := (hBs.cell 3).trans rfl
      have f0 := hBs.frozen 0
      have f1 := hBs.frozen 1
      have f2 := hBs.frozen 2
      have f3 := hBs.frozen 3
      have e41 : a.tmps[41]?.getD undef = .agg #[.int .i64 base, .int .i64 size, .int .i64 head, .int .i64 tail] := gd (hl 41 (by kernel_rfl))
      go_simp
      refine hK undef _ (((((ChgA.refl _ _).set 0 _).set 1 _).set 2 _).set 3 _) (fun s hs he => ?_)
      simp only [List.mem_cons, List.not_mem_nil, or_false] at hs
      rcases hs with rfl | rfl
      · exact absurd (show (2 : Nat) = 3 from he) (by decide)
      · exact ((((hBs.set_ 0 _).set_ 1 _).set_ 2 _).set_ 3 _)
    refine allStep_cons (stepS_plain hGk hSk (by omega) hJk (by kernel_rfl) rfl ?_) ?_
    · intro a u hb hz hj hl hp K Q hK
      go_simp
      exact hK _ _ (Below.refl _ _) (by intro d hd; cases hd; exact rfl)
    exact allStep_nil
  intro x w3 hb hz hj hL hSt
  obtain ⟨hk0, hk1, hk4, o_v⟩ := hj
  have fx12 : x 12 = .bool false := hL _ (List.mem_of_getElem? (i := 2) rfl)
  have hk2 : Blk w3 (w.heap.size + 1 + 1) 39 [.slice A_v n' c_v] := hSt _ (List.mem_of_getElem? (i := 0) rfl)
  have hk3 : Blk w3 (w.heap.size + 1 + 1 + 1) 69 [.int .i64 base, .int .i64 size, .int .i64 head, .int .i64 tail] := hSt _ (List.mem_of_getElem? (i := 1) rfl)
  simp only [List.map, putAll, fx12]
  have k3 : Below w.heap.size w w3 := k2.trans hb
  have p3 : w2.heap.size ≤ w3.heap.size := hb.size
  have bl0 := Nat.lt_of_lt_of_le bl0 hb.size
  have bl1 := Nat.lt_of_lt_of_le bl1 hb.size
  have bl2 := Nat.lt_of_lt_of_le bl2 hb.size
  have bl3 := Nat.lt_of_lt_of_le bl3 hb.size
  have bl4 := Nat.lt_of_lt_of_le bl4 hb.size
  have r_a := r_a.below hb
  have r_b := r_b.below hb
  have r_v := Reads.of_own o_v
  have bx0_0 : w3.cell? ⟨w.heap.size, 0, none⟩ = some (.slice A' n' c') := (hk0.cell 0).trans rfl
  have fz0_0 := hk0.frozen 0
  have bx1_0 : w3.cell? ⟨w.heap.size + 1, 0, none⟩ = some (.int .i64 base) := (hk1.cell 0).trans rfl
  have fz1_0 := hk1.frozen 0
  have bx1_1 : w3.cell? ⟨w.heap.size + 1, 1, none⟩ = some (.int .i64 size) := (hk1.cell 1).trans rfl
  have fz1_1 := hk1.frozen 1
  have bx1_2 : w3.cell? ⟨w.heap.size + 1, 2, none⟩ = some (.int .i64 head) := (hk1.cell 2).trans rfl
  have fz1_2 := hk1.frozen 2
  have bx1_3 : w3.cell? ⟨w.heap.size + 1, 3, none⟩ = some (.int .i64 tail) := (hk1.cell 3).trans rfl
  have fz1_3 := hk1.frozen 3
  have bx2_0 : w3.cell? ⟨w.heap.size + 1 + 1, 0, none⟩ = some (.slice A_v n' c_v) := (hk2.cell 0).trans rfl
  have fz2_0 := hk2.frozen 0
  have bx3_0 : w3.cell? ⟨w.heap.size + 1 + 1 + 1, 0, none⟩ = some (.int .i64 base) := (hk3.cell 0).trans rfl
  have fz3_0 := hk3.frozen 0
  have bx3_1 : w3.cell? ⟨w.heap.size + 1 + 1 + 1, 1, none⟩ = some (.int .i64 size) := (hk3.cell 1).trans rfl
  have fz3_1 := hk3.frozen 1
  have bx3_2 : w3.cell? ⟨w.heap.size + 1 + 1 + 1, 2, none⟩ = some (.int .i64 head) := (hk3.cell 2).trans rfl
  have fz3_2 := hk3.frozen 2
  have bx3_3 : w3.cell? ⟨w.heap.size + 1 + 1 + 1, 3, none⟩ = some (.int .i64 tail) := (hk3.cell 3).trans rfl
  have fz3_3 := hk3.frozen 3
  have bx4_0 : w3.cell? ⟨bk_4, 0, none⟩ = some (.slice A_v n' c_v) := (hk4.cell 0).trans rfl
  have fz4_0 := hk4.frozen 0
  clear hL hSt hb hz fx12
  all_goals
    go_wp2
    refine bodyPost_ret (v := .tuple #[.agg #[.slice A_v n' c_v], .agg #[.int .i64 base, .int .i64 size, .int .i64 head, .int .i64 tail], .bool false]) (by simp [results, Try.results54, go_sem, bx2_0, bx3_0, bx3_1, bx3_2, bx3_3]) rfl ?_
    exact ⟨A_v, c_v, rfl, own_base o_v (by omega), k3⟩
set_option maxRecDepth 100000 in
set_option maxHeartbeats 2000000 in
theorem implRingPut_4 (A A' : Option Addr) (n c n' c' : Nat) (l : List Mapping) (pg : List ByteArray) (w : World) (hn_a : l.length = n) (hn_b : pg.length = n') (hs_a : n ≤ 1048576) (hs_b : n' ≤ 1048576) (r_a : Reads w w.heap.size 4 A n (l.flatMap Mapping.cells)) (r_b : Reads w w.heap.size 1 A' n' (pg.flatMap fun x : ByteArray => [Value.string x])) (d base size head tail : Int) (s : ByteArray) (hh : I64 head) (ht : I64 tail) (hsz : s.size ≤ 1048576) (hf2 : (freeI base size head tail == 0) = false) (h17 : ((s.size : Int) == 16) = true) (h18 : ((s.size : Int) != 16) = false) (hok : ringB base size head tail = true) (hd : dmaOk l pg d (slotI base size head tail tail) s.size true = true) :
    Calls Try.prog 54 #[.slice A n c, .agg #[.slice A' n' c'], .int .i64 d, .agg #[.int .i64 base, .int .i64 size, .int .i64 head, .int .i64 tail], .string s] w fun e w' => ∃ A2 c2, e = .returned (.tuple #[.agg #[.slice A2 n' c2], .agg #[.int .i64 base, .int .i64 size, .int .i64 head, .int .i64 ((tail + 1) % (2 * size))], .bool true]) ∧ w'.ownsRow w.heap.size 9 1 (.slice A2 n' c2) n' ((dmaW l pg d (slotI base size head tail tail) s true).flatMap fun x : ByteArray => [Value.string x]) ∧ Below w.heap.size w w' := by
  obtain ⟨b1, b2, b3, b4, b5, b6, b7, b8, b9⟩ := ringB_size hok
  have hp : (2 * size == 0) = false := by simp; omega
  have hsb := slotI_bd2 hok b7 (by omega)
  have hI1 : I64 (slotI base size head tail tail) := ⟨by omega, by omega⟩
  have m1 := Int.emod_nonneg (tail + 1) (show 2 * size ≠ 0 by omega)
  have m2 := Int.emod_lt_of_pos (tail + 1) (show 0 < 2 * size by omega)
  have HD := Lib.hid hd
  clear hsb hok
  clear hd
  go_enter Try.func54, Try.ntmps54
  go_wp2_with fail
  have k0 : Below w.heap.size w ((((w.alloc (.cells #[.slice A' n' c'] 39)).alloc (.cells #[.int .i64 base, .int .i64 size, .int .i64 head, .int .i64 tail] 69)).alloc (.cells #[.slice none 0 0] 39)).alloc (.cells #[.int .i64 0, .int .i64 0, .int .i64 0, .int .i64 0] 69)) := by go_grown
  have bx0_0 : ((((w.alloc (.cells #[.slice A' n' c'] 39)).alloc (.cells #[.int .i64 base, .int .i64 size, .int .i64 head, .int .i64 tail] 69)).alloc (.cells #[.slice none 0 0] 39)).alloc (.cells #[.int .i64 0, .int .i64 0, .int .i64 0, .int .i64 0] 69)).cell? ⟨w.heap.size, 0, none⟩ = some (.slice A' n' c') := by simp [go_sem]
  have bl0 : w.heap.size < ((((w.alloc (.cells #[.slice A' n' c'] 39)).alloc (.cells #[.int .i64 base, .int .i64 size, .int .i64 head, .int .i64 tail] 69)).alloc (.cells #[.slice none 0 0] 39)).alloc (.cells #[.int .i64 0, .int .i64 0, .int .i64 0, .int .i64 0] 69)).heap.size := by go_size
  have hk0 : Blk ((((w.alloc (.cells #[.slice A' n' c'] 39)).alloc (.cells #[.int .i64 base, .int .i64 size, .int .i64 head, .int .i64 tail] 69)).alloc (.cells #[.slice none 0 0] 39)).alloc (.cells #[.int .i64 0, .int .i64 0, .int .i64 0, .int .i64 0] 69)) (w.heap.size) 39 [.slice A' n' c'] := by simpa using (((Blk.new w 39 [.slice A' n' c']).alloc (.cells #[.int .i64 base, .int .i64 size, .int .i64 head, .int .i64 tail] 69)).alloc (.cells #[.slice none 0 0] 39)).alloc (.cells #[.int .i64 0, .int .i64 0, .int .i64 0, .int .i64 0] 69)
  have bx1_0 : ((((w.alloc (.cells #[.slice A' n' c'] 39)).alloc (.cells #[.int .i64 base, .int .i64 size, .int .i64 head, .int .i64 tail] 69)).alloc (.cells #[.slice none 0 0] 39)).alloc (.cells #[.int .i64 0, .int .i64 0, .int .i64 0, .int .i64 0] 69)).cell? ⟨w.heap.size + 1, 0, none⟩ = some (.int .i64 base) := by simp [go_sem]
  have bx1_1 : ((((w.alloc (.cells #[.slice A' n' c'] 39)).alloc (.cells #[.int .i64 base, .int .i64 size, .int .i64 head, .int .i64 tail] 69)).alloc (.cells #[.slice none 0 0] 39)).alloc (.cells #[.int .i64 0, .int .i64 0, .int .i64 0, .int .i64 0] 69)).cell? ⟨w.heap.size + 1, 1, none⟩ = some (.int .i64 size) := by simp [go_sem]
  have bx1_2 : ((((w.alloc (.cells #[.slice A' n' c'] 39)).alloc (.cells #[.int .i64 base, .int .i64 size, .int .i64 head, .int .i64 tail] 69)).alloc (.cells #[.slice none 0 0] 39)).alloc (.cells #[.int .i64 0, .int .i64 0, .int .i64 0, .int .i64 0] 69)).cell? ⟨w.heap.size + 1, 2, none⟩ = some (.int .i64 head) := by simp [go_sem]
  have bx1_3 : ((((w.alloc (.cells #[.slice A' n' c'] 39)).alloc (.cells #[.int .i64 base, .int .i64 size, .int .i64 head, .int .i64 tail] 69)).alloc (.cells #[.slice none 0 0] 39)).alloc (.cells #[.int .i64 0, .int .i64 0, .int .i64 0, .int .i64 0] 69)).cell? ⟨w.heap.size + 1, 3, none⟩ = some (.int .i64 tail) := by simp [go_sem]
  have bl1 : w.heap.size + 1 < ((((w.alloc (.cells #[.slice A' n' c'] 39)).alloc (.cells #[.int .i64 base, .int .i64 size, .int .i64 head, .int .i64 tail] 69)).alloc (.cells #[.slice none 0 0] 39)).alloc (.cells #[.int .i64 0, .int .i64 0, .int .i64 0, .int .i64 0] 69)).heap.size := by go_size
  have hk1 : Blk ((((w.alloc (.cells #[.slice A' n' c'] 39)).alloc (.cells #[.int .i64 base, .int .i64 size, .int .i64 head, .int .i64 tail] 69)).alloc (.cells #[.slice none 0 0] 39)).alloc (.cells #[.int .i64 0, .int .i64 0, .int .i64 0, .int .i64 0] 69)) (w.heap.size + 1) 69 [.int .i64 base, .int .i64 size, .int .i64 head, .int .i64 tail] := by simpa using ((Blk.new (w.alloc (.cells #[.slice A' n' c'] 39)) 69 [.int .i64 base, .int .i64 size, .int .i64 head, .int .i64 tail]).alloc (.cells #[.slice none 0 0] 39)).alloc (.cells #[.int .i64 0, .int .i64 0, .int .i64 0, .int .i64 0] 69)
  have bx2_0 : ((((w.alloc (.cells #[.slice A' n' c'] 39)).alloc (.cells #[.int .i64 base, .int .i64 size, .int .i64 head, .int .i64 tail] 69)).alloc (.cells #[.slice none 0 0] 39)).alloc (.cells #[.int .i64 0, .int .i64 0, .int .i64 0, .int .i64 0] 69)).cell? ⟨w.heap.size + 1 + 1, 0, none⟩ = some (.slice none 0 0) := by simp [go_sem]
  have bl2 : w.heap.size + 1 + 1 < ((((w.alloc (.cells #[.slice A' n' c'] 39)).alloc (.cells #[.int .i64 base, .int .i64 size, .int .i64 head, .int .i64 tail] 69)).alloc (.cells #[.slice none 0 0] 39)).alloc (.cells #[.int .i64 0, .int .i64 0, .int .i64 0, .int .i64 0] 69)).heap.size := by go_size
  have hk2 : Blk ((((w.alloc (.cells #[.slice A' n' c'] 39)).alloc (.cells #[.int .i64 base, .int .i64 size, .int .i64 head, .int .i64 tail] 69)).alloc (.cells #[.slice none 0 0] 39)).alloc (.cells #[.int .i64 0, .int .i64 0, .int .i64 0, .int .i64 0] 69)) (w.heap.size + 1 + 1) 39 [.slice none 0 0] := by simpa using (Blk.new ((w.alloc (.cells #[.slice A' n' c'] 39)).alloc (.cells #[.int .i64 base, .int .i64 size, .int .i64 head, .int .i64 tail] 69)) 39 [.slice none 0 0]).alloc (.cells #[.int .i64 0, .int .i64 0, .int .i64 0, .int .i64 0] 69)
  have bx3_0 : ((((w.alloc (.cells #[.slice A' n' c'] 39)).alloc (.cells #[.int .i64 base, .int .i64 size, .int .i64 head, .int .i64 tail] 69)).alloc (.cells #[.slice none 0 0] 39)).alloc (.cells #[.int .i64 0, .int .i64 0, .int .i64 0, .int .i64 0] 69)).cell? ⟨w.heap.size + 1 + 1 + 1, 0, none⟩ = some (.int .i64 0) := by simp [go_sem]
  have bx3_1 : ((((w.alloc (.cells #[.slice A' n' c'] 39)).alloc (.cells #[.int .i64 base, .int .i64 size, .int .i64 head, .int .i64 tail] 69)).alloc (.cells #[.slice none 0 0] 39)).alloc (.cells #[.int .i64 0, .int .i64 0, .int .i64 0, .int .i64 0] 69)).cell? ⟨w.heap.size + 1 + 1 + 1, 1, none⟩ = some (.int .i64 0) := by simp [go_sem]
  have bx3_2 : ((((w.alloc (.cells #[.slice A' n' c'] 39)).alloc (.cells #[.int .i64 base, .int .i64 size, .int .i64 head, .int .i64 tail] 69)).alloc (.cells #[.slice none 0 0] 39)).alloc (.cells #[.int .i64 0, .int .i64 0, .int .i64 0, .int .i64 0] 69)).cell? ⟨w.heap.size + 1 + 1 + 1, 2, none⟩ = some (.int .i64 0) := by simp [go_sem]
  have bx3_3 : ((((w.alloc (.cells #[.slice A' n' c'] 39)).alloc (.cells #[.int .i64 base, .int .i64 size, .int .i64 head, .int .i64 tail] 69)).alloc (.cells #[.slice none 0 0] 39)).alloc (.cells #[.int .i64 0, .int .i64 0, .int .i64 0, .int .i64 0] 69)).cell? ⟨w.heap.size + 1 + 1 + 1, 3, none⟩ = some (.int .i64 0) := by simp [go_sem]
  have bl3 : w.heap.size + 1 + 1 + 1 < ((((w.alloc (.cells #[.slice A' n' c'] 39)).alloc (.cells #[.int .i64 base, .int .i64 size, .int .i64 head, .int .i64 tail] 69)).alloc (.cells #[.slice none 0 0] 39)).alloc (.cells #[.int .i64 0, .int .i64 0, .int .i64 0, .int .i64 0] 69)).heap.size := by go_size
  have hk3 : Blk ((((w.alloc (.cells #[.slice A' n' c'] 39)).alloc (.cells #[.int .i64 base, .int .i64 size, .int .i64 head, .int .i64 tail] 69)).alloc (.cells #[.slice none 0 0] 39)).alloc (.cells #[.int .i64 0, .int .i64 0, .int .i64 0, .int .i64 0] 69)) (w.heap.size + 1 + 1 + 1) 69 [.int .i64 0, .int .i64 0, .int .i64 0, .int .i64 0] := by simpa using Blk.new (((w.alloc (.cells #[.slice A' n' c'] 39)).alloc (.cells #[.int .i64 base, .int .i64 size, .int .i64 head, .int .i64 tail] 69)).alloc (.cells #[.slice none 0 0] 39)) 69 [.int .i64 0, .int .i64 0, .int .i64 0, .int .i64 0]
  have r_a := r_a.below k0
  have r_b := r_b.below k0
  have p0 := k0.size
  generalize hW0 : ((((w.alloc (.cells #[.slice A' n' c'] 39)).alloc (.cells #[.int .i64 base, .int .i64 size, .int .i64 head, .int .i64 tail] 69)).alloc (.cells #[.slice none 0 0] 39)).alloc (.cells #[.int .i64 0, .int .i64 0, .int .i64 0, .int .i64 0] 69)) = w0 at *
  clear hW0
  have bx0_0 : w0.cell? ⟨w.heap.size, 0, none⟩ = some (.slice A' n' c') := (hk0.cell 0).trans rfl
  have fz0_0 := hk0.frozen 0
  have bx1_0 : w0.cell? ⟨w.heap.size + 1, 0, none⟩ = some (.int .i64 base) := (hk1.cell 0).trans rfl
  have fz1_0 := hk1.frozen 0
  have bx1_1 : w0.cell? ⟨w.heap.size + 1, 1, none⟩ = some (.int .i64 size) := (hk1.cell 1).trans rfl
  have fz1_1 := hk1.frozen 1
  have bx1_2 : w0.cell? ⟨w.heap.size + 1, 2, none⟩ = some (.int .i64 head) := (hk1.cell 2).trans rfl
  have fz1_2 := hk1.frozen 2
  have bx1_3 : w0.cell? ⟨w.heap.size + 1, 3, none⟩ = some (.int .i64 tail) := (hk1.cell 3).trans rfl
  have fz1_3 := hk1.frozen 3
  have bx2_0 : w0.cell? ⟨w.heap.size + 1 + 1, 0, none⟩ = some (.slice none 0 0) := (hk2.cell 0).trans rfl
  have fz2_0 := hk2.frozen 0
  have bx3_0 : w0.cell? ⟨w.heap.size + 1 + 1 + 1, 0, none⟩ = some (.int .i64 0) := (hk3.cell 0).trans rfl
  have fz3_0 := hk3.frozen 0
  have bx3_1 : w0.cell? ⟨w.heap.size + 1 + 1 + 1, 1, none⟩ = some (.int .i64 0) := (hk3.cell 1).trans rfl
  have fz3_1 := hk3.frozen 1
  have bx3_2 : w0.cell? ⟨w.heap.size + 1 + 1 + 1, 2, none⟩ = some (.int .i64 0) := (hk3.cell 2).trans rfl
  have fz3_2 := hk3.frozen 2
  have bx3_3 : w0.cell? ⟨w.heap.size + 1 + 1 + 1, 3, none⟩ = some (.int .i64 0) := (hk3.cell 3).trans rfl
  have fz3_3 := hk3.frozen 3
  refine (implRingFree_c _ _ _ _ _ hh ht).mono ?_
  rintro e w1 ⟨rfl, hb⟩
  have k1 : Below w.heap.size w w1 := ext_step k0 (by omega) hb
  have p1 := hb.size
  have hk0 := hk0.ext hb
  have hk1 := hk1.ext hb
  have hk2 := hk2.ext hb
  have hk3 := hk3.ext hb
  have bx0_0 : w1.cell? ⟨w.heap.size, 0, none⟩ = some (.slice A' n' c') := (hk0.cell 0).trans rfl
  have fz0_0 := hk0.frozen 0
  have bx1_0 : w1.cell? ⟨w.heap.size + 1, 0, none⟩ = some (.int .i64 base) := (hk1.cell 0).trans rfl
  have fz1_0 := hk1.frozen 0
  have bx1_1 : w1.cell? ⟨w.heap.size + 1, 1, none⟩ = some (.int .i64 size) := (hk1.cell 1).trans rfl
  have fz1_1 := hk1.frozen 1
  have bx1_2 : w1.cell? ⟨w.heap.size + 1, 2, none⟩ = some (.int .i64 head) := (hk1.cell 2).trans rfl
  have fz1_2 := hk1.frozen 2
  have bx1_3 : w1.cell? ⟨w.heap.size + 1, 3, none⟩ = some (.int .i64 tail) := (hk1.cell 3).trans rfl
  have fz1_3 := hk1.frozen 3
  have bx2_0 : w1.cell? ⟨w.heap.size + 1 + 1, 0, none⟩ = some (.slice none 0 0) := (hk2.cell 0).trans rfl
  have fz2_0 := hk2.frozen 0
  have bx3_0 : w1.cell? ⟨w.heap.size + 1 + 1 + 1, 0, none⟩ = some (.int .i64 0) := (hk3.cell 0).trans rfl
  have fz3_0 := hk3.frozen 0
  have bx3_1 : w1.cell? ⟨w.heap.size + 1 + 1 + 1, 1, none⟩ = some (.int .i64 0) := (hk3.cell 1).trans rfl
  have fz3_1 := hk3.frozen 1
  have bx3_2 : w1.cell? ⟨w.heap.size + 1 + 1 + 1, 2, none⟩ = some (.int .i64 0) := (hk3.cell 2).trans rfl
  have fz3_2 := hk3.frozen 2
  have bx3_3 : w1.cell? ⟨w.heap.size + 1 + 1 + 1, 3, none⟩ = some (.int .i64 0) := (hk3.cell 3).trans rfl
  have fz3_3 := hk3.frozen 3
  have bl0 := Nat.lt_of_lt_of_le bl0 hb.size
  have bl1 := Nat.lt_of_lt_of_le bl1 hb.size
  have bl2 := Nat.lt_of_lt_of_le bl2 hb.size
  have bl3 := Nat.lt_of_lt_of_le bl3 hb.size
  have r_a := r_a.below (hb.mono (by omega))
  have r_b := r_b.below (hb.mono (by omega))
  clear hb
  go_wp2_with fail
  refine wp_region_slotsS (w.heap.size) [(27, fun _ v => v = .slice A n c), (28, fun _ v => v = .agg #[.slice A' n' c']), (29, fun _ v => v = .int .i64 d), (30, fun _ v => v = .agg #[.int .i64 base, .int .i64 size, .int .i64 head, .int .i64 tail]), (31, fun _ v => v = .pointer (some ⟨w.heap.size + 1, 3, none⟩)), (32, fun _ v => v = .int .i64 tail), (33, fun _ v => v = .int .i64 (slotI base size head tail tail)), (34, fun _ v => v = .string s), (35, RowP w1.heap.size 9 1 n' ((dmaW l pg d (slotI base size head tail tail) s true).flatMap fun x : ByteArray => [Value.string x]) (fun A c => .tuple #[.agg #[.slice A n' c], .bool (dmaOk l pg d (slotI base size head tail tail) s.size true)])), (26, RowP w1.heap.size 9 1 n' ((dmaW l pg d (slotI base size head tail tail) s true).flatMap fun x : ByteArray => [Value.string x]) (fun A c => .tuple #[.agg #[.slice A n' c], .bool (dmaOk l pg d (slotI base size head tail tail) s.size true)])), (36, RowP w1.heap.size 9 1 n' ((dmaW l pg d (slotI base size head tail tail) s true).flatMap fun x : ByteArray => [Value.string x]) (fun A c => .agg #[.slice A n' c])), (37, fun _ v => v = .bool (dmaOk l pg d (slotI base size head tail tail) s.size true)), (13, BoxP w1.heap.size 39 1), (14, fun _ v => v = .bool (dmaOk l pg d (slotI base size head tail tail) s.size true))] [⟨13, 13, fun _ => True, StoR w1.heap.size 39 9 1 n' ((dmaW l pg d (slotI base size head tail tail) s true).flatMap fun x : ByteArray => [Value.string x]) (fun A c => [.slice A n' c])⟩] (fun u => Blk u (w.heap.size) 39 [.slice A' n' c'] ∧ Blk u (w.heap.size + 1) 69 [.int .i64 base, .int .i64 size, .int .i64 head, .int .i64 tail] ∧ Blk u (w.heap.size + 1 + 1) 39 [.slice none 0 0] ∧ Blk u (w.heap.size + 1 + 1 + 1) 69 [.int .i64 0, .int .i64 0, .int .i64 0, .int .i64 0]) (by kernel_rfl) (by omega) (by kernel_rfl) (by kernel_rfl) (by kernel_rfl) (by kernel_rfl) ?_ ?_ ?_ ?_ ?_ ?_ ?_
  · intro p hp
    simp only [List.mem_cons, List.not_mem_nil, or_false] at hp
    rcases hp with rfl | rfl | rfl | rfl | rfl | rfl | rfl | rfl | rfl | rfl | rfl | rfl | rfl | rfl
    all_goals (intro u u' v hb hv; first | exact hv | exact BoxP.keep hv hb | exact RowP.keep hv hb)
  · intro s hs u u' hb
    simp only [List.mem_cons, List.not_mem_nil, or_false] at hs
    rcases hs with rfl
    all_goals (refine ⟨fun h => ?_, fun _ h => ?_⟩ <;> first | exact h | exact StoP.keep h hb | exact StoR.keep h hb | exact Blk.ext h hb | exact StaR.keep h hb)
  · intro s hs
    simp only [List.mem_cons, List.not_mem_nil, or_false] at hs
    rcases hs with rfl
    all_goals first | trivial
  · exact ⟨hk0, hk1, hk2, hk3⟩
  · intro u u' hb hj
    obtain ⟨j0, j1, j2, j3⟩ := hj
    exact ⟨(j0.ext hb), (j1.ext hb), (j2.ext hb), (j3.ext hb)⟩
  · intro hGk hSk hJk
    refine allStep_cons (stepS_plain hGk hSk (by omega) hJk (by kernel_rfl) rfl ?_) ?_
    · intro a u hb hz hj hl hp K Q hK
      have e0 : a.tmps[0]?.getD undef = .slice A n c := gd (hl 0 (by kernel_rfl))
      go_simp
      exact hK _ _ (Below.refl _ _) (by intro d hd; cases hd; exact rfl)
    refine allStep_cons (stepS_plain hGk hSk (by omega) hJk (by kernel_rfl) rfl ?_) ?_
    · intro a u hb hz hj hl hp K Q hK
      have e6 : a.tmps[6]?.getD undef = .pointer (some ⟨w.heap.size, 0, none⟩) := gd (hl 6 (by kernel_rfl))
      obtain ⟨j0, j1, j2, j3⟩ := hj
      have hBb := j0
      have gb0 : u.cell? ⟨w.heap.size, 0, none⟩ = some (.slice A' n' c') := (hBb.cell 0).trans rfl
      go_simp
      exact hK _ _ (Below.refl _ _) (by intro d hd; cases hd; exact rfl)
    refine allStep_cons (stepS_plain hGk hSk (by omega) hJk (by kernel_rfl) rfl ?_) ?_
    · intro a u hb hz hj hl hp K Q hK
      have e2 : a.tmps[2]?.getD undef = .int .i64 d := gd (hl 2 (by kernel_rfl))
      go_simp
      exact hK _ _ (Below.refl _ _) (by intro d hd; cases hd; exact rfl)
    refine allStep_cons (stepS_plain hGk hSk (by omega) hJk (by kernel_rfl) rfl ?_) ?_
    · intro a u hb hz hj hl hp K Q hK
      have e8 : a.tmps[8]?.getD undef = .pointer (some ⟨w.heap.size + 1, 0, none⟩) := gd (hl 8 (by kernel_rfl))
      obtain ⟨j0, j1, j2, j3⟩ := hj
      have hBb := j1
      have gb0 : u.cell? ⟨w.heap.size + 1, 0, none⟩ = some (.int .i64 base) := (hBb.cell 0).trans rfl
      have gb1 : u.cell? ⟨w.heap.size + 1, 1, none⟩ = some (.int .i64 size) := (hBb.cell 1).trans rfl
      have gb2 : u.cell? ⟨w.heap.size + 1, 2, none⟩ = some (.int .i64 head) := (hBb.cell 2).trans rfl
      have gb3 : u.cell? ⟨w.heap.size + 1, 3, none⟩ = some (.int .i64 tail) := (hBb.cell 3).trans rfl
      go_simp
      exact hK _ _ (Below.refl _ _) (by intro d hd; cases hd; exact rfl)
    refine allStep_cons (stepS_plain hGk hSk (by omega) hJk (by kernel_rfl) rfl ?_) ?_
    · intro a u hb hz hj hl hp K Q hK
      have e8 : a.tmps[8]?.getD undef = .pointer (some ⟨w.heap.size + 1, 0, none⟩) := gd (hl 8 (by kernel_rfl))
      go_simp
      exact hK _ _ (Below.refl _ _) (by intro d hd; cases hd; exact rfl)
    refine allStep_cons (stepS_plain hGk hSk (by omega) hJk (by kernel_rfl) rfl ?_) ?_
    · intro a u hb hz hj hl hp K Q hK
      have e31 : a.tmps[31]?.getD undef = .pointer (some ⟨w.heap.size + 1, 3, none⟩) := gd (hl 31 (by kernel_rfl))
      obtain ⟨j0, j1, j2, j3⟩ := hj
      have hBb := j1
      have gb3 : u.cell? ⟨w.heap.size + 1, 3, none⟩ = some (.int .i64 tail) := (hBb.cell 3).trans rfl
      go_simp
      exact hK _ _ (Below.refl _ _) (by intro d hd; cases hd; exact rfl)
    refine allStep_cons (stepS_plain hGk hSk (by omega) hJk (by kernel_rfl) rfl ?_) ?_
    · intro a u hb hz hj hl hp K Q hK
      have e30 : a.tmps[30]?.getD undef = .agg #[.int .i64 base, .int .i64 size, .int .i64 head, .int .i64 tail] := gd (hl 30 (by kernel_rfl))
      have e32 : a.tmps[32]?.getD undef = .int .i64 tail := gd (hl 32 (by kernel_rfl))
      go_simp
      refine (implSlotAddress_c _ _ _ _ _ _ hh ht ht).mono ?_
      rintro e u1 ⟨rfl, hb1⟩
      exact hK _ _ hb1 (by intro d hd; cases hd; exact rfl)
    refine allStep_cons (stepS_plain hGk hSk (by omega) hJk (by kernel_rfl) rfl ?_) ?_
    · intro a u hb hz hj hl hp K Q hK
      have e4 : a.tmps[4]?.getD undef = .string s := gd (hl 4 (by kernel_rfl))
      go_simp
      exact hK _ _ (Below.refl _ _) (by intro d hd; cases hd; exact rfl)
    refine allStep_cons (stepS_plain hGk hSk (by omega) hJk (by kernel_rfl) rfl ?_) ?_
    · intro a u hb hz hj hl hp K Q hK
      have e27 : a.tmps[27]?.getD undef = .slice A n c := gd (hl 27 (by kernel_rfl))
      have e28 : a.tmps[28]?.getD undef = .agg #[.slice A' n' c'] := gd (hl 28 (by kernel_rfl))
      have e29 : a.tmps[29]?.getD undef = .int .i64 d := gd (hl 29 (by kernel_rfl))
      have e33 : a.tmps[33]?.getD undef = .int .i64 (slotI base size head tail tail) := gd (hl 33 (by kernel_rfl))
      have e34 : a.tmps[34]?.getD undef = .string s := gd (hl 34 (by kernel_rfl))
      go_simp
      refine (implDmaWrite_c _ _ _ _ _ _ l pg _ hn_a hn_b hs_a hs_b ((r_a.below (hb.mono (by omega))).more (by omega)) ((r_b.below (hb.mono (by omega))).more (by omega)) _ _ _ hI1 hsz).mono ?_
      rintro e u1 ⟨A_v, c_v, rfl, o_v, hb1⟩
      exact hK _ _ hb1 (by intro d hd; cases hd; exact ⟨A_v, c_v, rfl, own_base o_v (by omega)⟩)
    refine allStep_cons (stepS_plain hGk hSk (by omega) hJk (by kernel_rfl) rfl ?_) ?_
    · intro a u hb hz hj hl hp K Q hK
      obtain ⟨A1, c1, ex35, o1⟩ : RowP w1.heap.size 9 1 n' ((dmaW l pg d (slotI base size head tail tail) s true).flatMap fun x : ByteArray => [Value.string x]) (fun A c => .tuple #[.agg #[.slice A n' c], .bool (dmaOk l pg d (slotI base size head tail tail) s.size true)]) u (a.tmps.getD 35 undef) := hl 35 (by kernel_rfl)
      have e35 := gd ex35
      go_simp
      exact hK _ _ (Below.refl _ _) (by intro d hd; cases hd; exact ⟨A1, c1, rfl, o1⟩)
    refine allStep_cons (stepS_plain hGk hSk (by omega) hJk (by kernel_rfl) rfl ?_) ?_
    · intro a u hb hz hj hl hp K Q hK
      obtain ⟨A1, c1, ex26, o1⟩ : RowP w1.heap.size 9 1 n' ((dmaW l pg d (slotI base size head tail tail) s true).flatMap fun x : ByteArray => [Value.string x]) (fun A c => .tuple #[.agg #[.slice A n' c], .bool (dmaOk l pg d (slotI base size head tail tail) s.size true)]) u (a.tmps.getD 26 undef) := hl 26 (by kernel_rfl)
      have e26 := gd ex26
      go_simp
      exact hK _ _ (Below.refl _ _) (by intro d hd; cases hd; exact ⟨A1, c1, rfl, o1⟩)
    refine allStep_cons (stepS_plain hGk hSk (by omega) hJk (by kernel_rfl) rfl ?_) ?_
    · intro a u hb hz hj hl hp K Q hK
      obtain ⟨A1, c1, ex26, o1⟩ : RowP w1.heap.size 9 1 n' ((dmaW l pg d (slotI base size head tail tail) s true).flatMap fun x : ByteArray => [Value.string x]) (fun A c => .tuple #[.agg #[.slice A n' c], .bool (dmaOk l pg d (slotI base size head tail tail) s.size true)]) u (a.tmps.getD 26 undef) := hl 26 (by kernel_rfl)
      have e26 := gd ex26
      go_simp
      exact hK _ _ (Below.refl _ _) (by intro d hd; cases hd; exact rfl)
    refine allStep_cons (stepS_plain hGk hSk (by omega) hJk (by kernel_rfl) rfl ?_) ?_
    · intro a u hb hz hj hl hp K Q hK
      go_simp
      exact hK _ _ (by go_grown) (by intro d hd; cases hd; exact BoxP.new _ _ [.slice none 0 0] (by omega) rfl)
    refine allStep_cons (stepS_store (Chg w1.heap.size 39) (fun _ _ hc hb => hc.below' (by omega) hb) (fun _ _ hc => hc.size) (hold_rel ?_) ?_ ?_ rfl rfl ?_) ?_
    · intro p hp
      simp only [List.mem_cons, List.not_mem_nil, or_false] at hp
      rcases hp with rfl | rfl | rfl | rfl | rfl | rfl | rfl | rfl | rfl | rfl | rfl | rfl | rfl | rfl
      all_goals (intro u u' v hb hv; first | exact hv | exact BoxP.chg hv hb | exact RowP.chg hv hb (by decide))
    · intro s hs hne u u' hb
      simp only [List.mem_cons, List.not_mem_nil, or_false] at hs
      rcases hs with rfl
      all_goals first | exact absurd (by rfl) hne | (refine ⟨fun h => ?_, fun _ h => ?_⟩ <;> first | exact h | exact StoP.chg h hb (by decide) | exact StoR.chg h hb (by decide) (by decide) | exact Blk.chgL h hb (by omega) | exact StaR.chgL h hb (by omega) (by decide))
    · intro u u' hb hj
      obtain ⟨j0, j1, j2, j3⟩ := hj
      exact ⟨(j0.chgL hb (by omega)), (j1.chgL hb (by omega)), (j2.chgL hb (by omega)), (j3.chgL hb (by omega))⟩
    · intro a u hb hz hj hl hp K Q hK
      obtain ⟨b, exb, hB, zs, hzl, hbk⟩ : BoxP w1.heap.size 39 1 u (a.tmps.getD 13 undef) := hl 13 (by kernel_rfl)
      have e13 := gd exb
      obtain ⟨A2, c2, ex36, o2⟩ : RowP w1.heap.size 9 1 n' ((dmaW l pg d (slotI base size head tail tail) s true).flatMap fun x : ByteArray => [Value.string x]) (fun A c => .agg #[.slice A n' c]) u (a.tmps.getD 36 undef) := hl 36 (by kernel_rfl)
      have e36 := gd ex36
      obtain ⟨z0, rfl⟩ : ∃ z0, zs = [z0] := (by match zs, hzl with | [z0], _ => exact ⟨_, rfl⟩)
      have hlt := hbk.lt
      have g0 : u.cell? ⟨b, 0, none⟩ = some z0 := (hbk.cell 0).trans rfl
      have f0 := hbk.frozen 0
      go_simp
      refine hK undef _ ((Chg.refl _ _ _).set hbk hB 0 _) (fun s hs he => ?_)
      simp only [List.mem_cons, List.not_mem_nil, or_false] at hs
      rcases hs with rfl
      · exact ⟨b, A2, c2, exb, hB, (hbk.set_ 0 _), own_chg o2 ((Chg.refl _ _ _).set hbk hB 0 _) (by decide)⟩
    refine allStep_cons (stepS_plain hGk hSk (by omega) hJk (by kernel_rfl) rfl ?_) ?_
    · intro a u hb hz hj hl hp K Q hK
      have e37 : a.tmps[37]?.getD undef = .bool (dmaOk l pg d (slotI base size head tail tail) s.size true) := gd (hl 37 (by kernel_rfl))
      go_simp
      exact hK _ _ (Below.refl _ _) (by intro d hd; cases hd; exact rfl)
    exact allStep_nil
  intro x w2 hb hz hj hL hSt
  obtain ⟨hk0, hk1, hk2, hk3⟩ := hj
  have fx14 : x 14 = .bool (dmaOk l pg d (slotI base size head tail tail) s.size true) := hL _ (List.mem_of_getElem? (i := 13) rfl)
  obtain ⟨bk_4, A_v, c_v, fx13, lo4, hk4, o_v⟩ : StoR w1.heap.size 39 9 1 n' ((dmaW l pg d (slotI base size head tail tail) s true).flatMap fun x : ByteArray => [Value.string x]) (fun A c => [.slice A n' c]) w2 (x 13) := hSt _ (List.mem_of_getElem? (i := 0) rfl)
  simp only [List.map, putAll, fx14, fx13]
  have bl4 := hk4.lt
  have k2 : Below w.heap.size w w2 := k1.trans hb
  have p2 : w1.heap.size ≤ w2.heap.size := hb.size
  have bl0 := Nat.lt_of_lt_of_le bl0 hb.size
  have bl1 := Nat.lt_of_lt_of_le bl1 hb.size
  have bl2 := Nat.lt_of_lt_of_le bl2 hb.size
  have bl3 := Nat.lt_of_lt_of_le bl3 hb.size
  have r_a := r_a.below hb
  have r_b := r_b.below hb
  have nb_v_4 := own_ty o_v hk4 (by decide)
  have r_v := Reads.of_own o_v
  have u_v := fun k hk => (o_v.lt k hk).2
  have bx0_0 : w2.cell? ⟨w.heap.size, 0, none⟩ = some (.slice A' n' c') := (hk0.cell 0).trans rfl
  have fz0_0 := hk0.frozen 0
  have bx1_0 : w2.cell? ⟨w.heap.size + 1, 0, none⟩ = some (.int .i64 base) := (hk1.cell 0).trans rfl
  have fz1_0 := hk1.frozen 0
  have bx1_1 : w2.cell? ⟨w.heap.size + 1, 1, none⟩ = some (.int .i64 size) := (hk1.cell 1).trans rfl
  have fz1_1 := hk1.frozen 1
  have bx1_2 : w2.cell? ⟨w.heap.size + 1, 2, none⟩ = some (.int .i64 head) := (hk1.cell 2).trans rfl
  have fz1_2 := hk1.frozen 2
  have bx1_3 : w2.cell? ⟨w.heap.size + 1, 3, none⟩ = some (.int .i64 tail) := (hk1.cell 3).trans rfl
  have fz1_3 := hk1.frozen 3
  have bx2_0 : w2.cell? ⟨w.heap.size + 1 + 1, 0, none⟩ = some (.slice none 0 0) := (hk2.cell 0).trans rfl
  have fz2_0 := hk2.frozen 0
  have bx3_0 : w2.cell? ⟨w.heap.size + 1 + 1 + 1, 0, none⟩ = some (.int .i64 0) := (hk3.cell 0).trans rfl
  have fz3_0 := hk3.frozen 0
  have bx3_1 : w2.cell? ⟨w.heap.size + 1 + 1 + 1, 1, none⟩ = some (.int .i64 0) := (hk3.cell 1).trans rfl
  have fz3_1 := hk3.frozen 1
  have bx3_2 : w2.cell? ⟨w.heap.size + 1 + 1 + 1, 2, none⟩ = some (.int .i64 0) := (hk3.cell 2).trans rfl
  have fz3_2 := hk3.frozen 2
  have bx3_3 : w2.cell? ⟨w.heap.size + 1 + 1 + 1, 3, none⟩ = some (.int .i64 0) := (hk3.cell 3).trans rfl
  have fz3_3 := hk3.frozen 3
  have bx4_0 : w2.cell? ⟨bk_4, 0, none⟩ = some (.slice A_v n' c_v) := (hk4.cell 0).trans rfl
  have fz4_0 := hk4.frozen 0
  clear hL hSt hb hz fx14 fx13
  rw [HD.out]
  go_wp2_with fail
  have hc : ChgA (w.heap.size + 1) w2 (w2.setCell ⟨w.heap.size + 1, 3, none⟩ (.int .i64 ((tail + 1) % (2 * size)))) := (ChgA.refl _ _).set _ _
  have hk0 := hk0.chgA hc (by omega)
  have hk2 := hk2.chgA hc (by omega)
  have hk3 := hk3.chgA hc (by omega)
  have hk4 := hk4.chgA hc (by omega)
  have hk1 : Blk (w2.setCell ⟨w.heap.size + 1, 3, none⟩ (.int .i64 ((tail + 1) % (2 * size)))) (w.heap.size + 1) 69 [.int .i64 base, .int .i64 size, .int .i64 head, .int .i64 ((tail + 1) % (2 * size))] := hk1.set_ 3 _
  have k3 : Below w.heap.size w (w2.setCell ⟨w.heap.size + 1, 3, none⟩ (.int .i64 ((tail + 1) % (2 * size)))) := hc.below (by omega) k2
  have p3 : (w2.setCell ⟨w.heap.size + 1, 3, none⟩ (.int .i64 ((tail + 1) % (2 * size)))).heap.size = w2.heap.size := hc.size
  have bl0 := Nat.lt_of_lt_of_le bl0 (Nat.le_of_eq p3.symm)
  have bl1 := Nat.lt_of_lt_of_le bl1 (Nat.le_of_eq p3.symm)
  have bl2 := Nat.lt_of_lt_of_le bl2 (Nat.le_of_eq p3.symm)
  have bl3 := Nat.lt_of_lt_of_le bl3 (Nat.le_of_eq p3.symm)
  have bl4 := Nat.lt_of_lt_of_le bl4 (Nat.le_of_eq p3.symm)
  have r_a := r_a.below (hc.below (by omega) (Below.refl _ _))
  have r_b := r_b.below (hc.below (by omega) (Below.refl _ _))
  have o_v := own_chgA o_v hc (fun k hk => by have h1 := o_v.lt k hk; omega)
  have r_v := Reads.of_own o_v
  generalize hW0 : (w2.setCell ⟨w.heap.size + 1, 3, none⟩ (.int .i64 ((tail + 1) % (2 * size)))) = w3 at *
  clear hW0 hc
  have bx0_0 : w3.cell? ⟨w.heap.size, 0, none⟩ = some (.slice A' n' c') := (hk0.cell 0).trans rfl
  have fz0_0 := hk0.frozen 0
  have bx1_0 : w3.cell? ⟨w.heap.size + 1, 0, none⟩ = some (.int .i64 base) := (hk1.cell 0).trans rfl
  have fz1_0 := hk1.frozen 0
  have bx1_1 : w3.cell? ⟨w.heap.size + 1, 1, none⟩ = some (.int .i64 size) := (hk1.cell 1).trans rfl
  have fz1_1 := hk1.frozen 1
  have bx1_2 : w3.cell? ⟨w.heap.size + 1, 2, none⟩ = some (.int .i64 head) := (hk1.cell 2).trans rfl
  have fz1_2 := hk1.frozen 2
  have bx1_3 : w3.cell? ⟨w.heap.size + 1, 3, none⟩ = some (.int .i64 ((tail + 1) % (2 * size))) := (hk1.cell 3).trans rfl
  have fz1_3 := hk1.frozen 3
  have bx2_0 : w3.cell? ⟨w.heap.size + 1 + 1, 0, none⟩ = some (.slice none 0 0) := (hk2.cell 0).trans rfl
  have fz2_0 := hk2.frozen 0
  have bx3_0 : w3.cell? ⟨w.heap.size + 1 + 1 + 1, 0, none⟩ = some (.int .i64 0) := (hk3.cell 0).trans rfl
  have fz3_0 := hk3.frozen 0
  have bx3_1 : w3.cell? ⟨w.heap.size + 1 + 1 + 1, 1, none⟩ = some (.int .i64 0) := (hk3.cell 1).trans rfl
  have fz3_1 := hk3.frozen 1
  have bx3_2 : w3.cell? ⟨w.heap.size + 1 + 1 + 1, 2, none⟩ = some (.int .i64 0) := (hk3.cell 2).trans rfl
  have fz3_2 := hk3.frozen 2
  have bx3_3 : w3.cell? ⟨w.heap.size + 1 + 1 + 1, 3, none⟩ = some (.int .i64 0) := (hk3.cell 3).trans rfl
  have fz3_3 := hk3.frozen 3
  have bx4_0 : w3.cell? ⟨bk_4, 0, none⟩ = some (.slice A_v n' c_v) := (hk4.cell 0).trans rfl
  have fz4_0 := hk4.frozen 0
  refine wp_region_slotsS (w.heap.size) [(50, fun _ v => v = .agg #[.slice A_v n' c_v]), (51, fun _ v => v = .agg #[.int .i64 base, .int .i64 size, .int .i64 head, .int .i64 ((tail + 1) % (2 * size))]), (12, fun _ v => v = .bool true)] [⟨2, 50, fun u => Blk u (w.heap.size + 1 + 1) 39 [.slice none 0 0], fun u _ => Blk u (w.heap.size + 1 + 1) 39 [.slice A_v n' c_v]⟩, ⟨3, 51, fun u => Blk u (w.heap.size + 1 + 1 + 1) 69 [.int .i64 0, .int .i64 0, .int .i64 0, .int .i64 0], fun u _ => Blk u (w.heap.size + 1 + 1 + 1) 69 [.int .i64 base, .int .i64 size, .int .i64 head, .int .i64 ((tail + 1) % (2 * size))]⟩] (fun u => Blk u (w.heap.size) 39 [.slice A' n' c'] ∧ Blk u (w.heap.size + 1) 69 [.int .i64 base, .int .i64 size, .int .i64 head, .int .i64 ((tail + 1) % (2 * size))] ∧ Blk u (bk_4) 39 [.slice A_v n' c_v] ∧ u.ownsRow (w1.heap.size) 9 1 (.slice A_v n' c_v) n' ((dmaW l pg d (slotI base size head tail tail) s true).flatMap fun x : ByteArray => [Value.string x])) (by kernel_rfl) (by omega) (by kernel_rfl) (by kernel_rfl) (by kernel_rfl) (by kernel_rfl) ?_ ?_ ?_ ?_ ?_ ?_ ?_
  · intro p hp
    simp only [List.mem_cons, List.not_mem_nil, or_false] at hp
    rcases hp with rfl | rfl | rfl
    all_goals (intro u u' v hb hv; first | exact hv | exact BoxP.keep hv hb | exact RowP.keep hv hb)
  · intro s hs u u' hb
    simp only [List.mem_cons, List.not_mem_nil, or_false] at hs
    rcases hs with rfl | rfl
    all_goals (refine ⟨fun h => ?_, fun _ h => ?_⟩ <;> first | exact h | exact StoP.keep h hb | exact StoR.keep h hb | exact Blk.ext h hb | exact StaR.keep h hb)
  · intro s hs
    simp only [List.mem_cons, List.not_mem_nil, or_false] at hs
    rcases hs with rfl | rfl
    all_goals first | trivial | exact hk2 | exact hk3
  · exact ⟨hk0, hk1, hk4, o_v⟩
  · intro u u' hb hj
    obtain ⟨j0, j1, j2, j3⟩ := hj
    exact ⟨(j0.ext hb), (j1.ext hb), (j2.ext hb), (own_ext j3 hb)⟩
  · intro hGk hSk hJk
    refine allStep_cons (stepS_plain hGk hSk (by omega) hJk (by kernel_rfl) rfl ?_) ?_
    · intro a u hb hz hj hl hp K Q hK
      have e13 : a.tmps[13]?.getD undef = .pointer (some ⟨bk_4, 0, none⟩) := gd (hl 13 (by kernel_rfl))
      obtain ⟨j0, j1, j2, j3⟩ := hj
      have hBb := j2
      have gb0 : u.cell? ⟨bk_4, 0, none⟩ = some (.slice A_v n' c_v) := (hBb.cell 0).trans rfl
      go_simp
      exact hK _ _ (Below.refl _ _) (by intro d hd; cases hd; exact rfl)
    refine allStep_cons (stepS_plain hGk hSk (by omega) hJk (by kernel_rfl) rfl ?_) ?_
    · intro a u hb hz hj hl hp K Q hK
      have e8 : a.tmps[8]?.getD undef = .pointer (some ⟨w.heap.size + 1, 0, none⟩) := gd (hl 8 (by kernel_rfl))
      obtain ⟨j0, j1, j2, j3⟩ := hj
      have hBb := j1
      have gb0 : u.cell? ⟨w.heap.size + 1, 0, none⟩ = some (.int .i64 base) := (hBb.cell 0).trans rfl
      have gb1 : u.cell? ⟨w.heap.size + 1, 1, none⟩ = some (.int .i64 size) := (hBb.cell 1).trans rfl
      have gb2 : u.cell? ⟨w.heap.size + 1, 2, none⟩ = some (.int .i64 head) := (hBb.cell 2).trans rfl
      have gb3 : u.cell? ⟨w.heap.size + 1, 3, none⟩ = some (.int .i64 ((tail + 1) % (2 * size))) := (hBb.cell 3).trans rfl
      go_simp
      exact hK _ _ (Below.refl _ _) (by intro d hd; cases hd; exact rfl)
    refine allStep_cons (stepS_store (ChgA (w.heap.size + 1 + 1)) (fun _ _ hc hb => hc.below (by omega) hb) (fun _ _ hc => hc.size) (hold_rel ?_) ?_ ?_ rfl rfl ?_) ?_
    · intro p hp
      simp only [List.mem_cons, List.not_mem_nil, or_false] at hp
      rcases hp with rfl | rfl | rfl
      all_goals (intro u u' v hb hv; first | exact hv | exact BoxP.chgA hv hb (by omega) | exact RowP.chgA hv hb (by omega))
    · intro s hs hne u u' hb
      simp only [List.mem_cons, List.not_mem_nil, or_false] at hs
      rcases hs with rfl | rfl
      all_goals first | exact absurd (by rfl) hne | (refine ⟨fun h => ?_, fun _ h => ?_⟩ <;> first | exact h | exact Blk.chgA h hb (by omega) | exact StoP.chgA h hb (by omega) | exact StoR.chgA h hb (by omega) | exact StaR.chgA h hb (by omega) (by omega))
    · intro u u' hb hj
      obtain ⟨j0, j1, j2, j3⟩ := hj
      exact ⟨(j0.chgA hb (by omega)), (j1.chgA hb (by omega)), (j2.chgA hb (by omega)), (own_chgA j3 hb (fun k hk => by have h1 := o_v.lt k hk; omega))⟩
    · intro a u hb hz hj hl hp K Q hK
      have e10 : a.tmps[10]?.getD undef = .pointer (some ⟨w.heap.size + 1 + 1, 0, none⟩) := gd (hl 10 (by kernel_rfl))
      have hBs : Blk u (w.heap.size + 1 + 1) 39 [.slice none 0 0] := hp _ (List.mem_of_getElem? (i := 0) rfl) (by kernel_rfl)
      have gs0 : u.cell? ⟨w.heap.size + 1 + 1, 0, none⟩ = some (.slice none 0 0) := (hBs.cell 0).trans rfl
      have f0 := hBs.frozen 0
      have e50 : a.tmps[50]?.getD undef = .agg #[.slice A_v n' c_v] := gd (hl 50 (by kernel_rfl))
      go_simp
      refine hK undef _ ((ChgA.refl _ _).set 0 _) (fun s hs he => ?_)
      simp only [List.mem_cons, List.not_mem_nil, or_false] at hs
      rcases hs with rfl | rfl
      · exact (hBs.set_ 0 _)
      · exact absurd (show (3 : Nat) = 2 from he) (by decide)
    refine allStep_cons (stepS_store (ChgA (w.heap.size + 1 + 1 + 1)) (fun _ _ hc hb => hc.below (by omega) hb) (fun _ _ hc => hc.size) (hold_rel ?_) ?_ ?_ rfl rfl ?_) ?_
    · intro p hp
      simp only [List.mem_cons, List.not_mem_nil, or_false] at hp
      rcases hp with rfl | rfl | rfl
      all_goals (intro u u' v hb hv; first | exact hv | exact BoxP.chgA hv hb (by omega) | exact RowP.chgA hv hb (by omega))
    · intro s hs hne u u' hb
      simp only [List.mem_cons, List.not_mem_nil, or_false] at hs
      rcases hs with rfl | rfl
      all_goals first | exact absurd (by rfl) hne | (refine ⟨fun h => ?_, fun _ h => ?_⟩ <;> first | exact h | exact Blk.chgA h hb (by omega) | exact StoP.chgA h hb (by omega) | exact StoR.chgA h hb (by omega) | exact StaR.chgA h hb (by omega) (by omega))
    · intro u u' hb hj
      obtain ⟨j0, j1, j2, j3⟩ := hj
      exact ⟨(j0.chgA hb (by omega)), (j1.chgA hb (by omega)), (j2.chgA hb (by omega)), (own_chgA j3 hb (fun k hk => by have h1 := o_v.lt k hk; omega))⟩
    · intro a u hb hz hj hl hp K Q hK
      have e11 : a.tmps[11]?.getD undef = .pointer (some ⟨w.heap.size + 1 + 1 + 1, 0, none⟩) := gd (hl 11 (by kernel_rfl))
      have hBs : Blk u (w.heap.size + 1 + 1 + 1) 69 [.int .i64 0, .int .i64 0, .int .i64 0, .int .i64 0] := hp _ (List.mem_of_getElem? (i := 1) rfl) (by kernel_rfl)
      have gs0 : u.cell? ⟨w.heap.size + 1 + 1 + 1, 0, none⟩ = some (.int .i64 0) := (hBs.cell 0).trans rfl
      have gs1 : u.cell? ⟨w.heap.size + 1 + 1 + 1, 1, none⟩ = some (.int .i64 0) := (hBs.cell 1).trans rfl
      have gs2 : u.cell? ⟨w.heap.size + 1 + 1 + 1, 2, none⟩ = some (.int .i64 0) := (hBs.cell 2).trans rfl
      have gs3 : u.cell? ⟨w.heap.size + 1 + 1 + 1, 3, none⟩ = some (.int .i64 0) := (hBs.cell 3).trans rfl
      have f0 := hBs.frozen 0
      have f1 := hBs.frozen 1
      have f2 := hBs.frozen 2
      have f3 := hBs.frozen 3
      have e51 : a.tmps[51]?.getD undef = .agg #[.int .i64 base, .int .i64 size, .int .i64 head, .int .i64 ((tail + 1) % (2 * size))] := gd (hl 51 (by kernel_rfl))
      go_simp
      refine hK undef _ (((((ChgA.refl _ _).set 0 _).set 1 _).set 2 _).set 3 _) (fun s hs he => ?_)
      simp only [List.mem_cons, List.not_mem_nil, or_false] at hs
      rcases hs with rfl | rfl
      · exact absurd (show (2 : Nat) = 3 from he) (by decide)
      · exact ((((hBs.set_ 0 _).set_ 1 _).set_ 2 _).set_ 3 _)
    refine allStep_cons (stepS_plain hGk hSk (by omega) hJk (by kernel_rfl) rfl ?_) ?_
    · intro a u hb hz hj hl hp K Q hK
      go_simp
      exact hK _ _ (Below.refl _ _) (by intro d hd; cases hd; exact rfl)
    exact allStep_nil
  intro x w4 hb hz hj hL hSt
  obtain ⟨hk0, hk1, hk4, o_v⟩ := hj
  have fx12 : x 12 = .bool true := hL _ (List.mem_of_getElem? (i := 2) rfl)
  have hk2 : Blk w4 (w.heap.size + 1 + 1) 39 [.slice A_v n' c_v] := hSt _ (List.mem_of_getElem? (i := 0) rfl)
  have hk3 : Blk w4 (w.heap.size + 1 + 1 + 1) 69 [.int .i64 base, .int .i64 size, .int .i64 head, .int .i64 ((tail + 1) % (2 * size))] := hSt _ (List.mem_of_getElem? (i := 1) rfl)
  simp only [List.map, putAll, fx12]
  have k4 : Below w.heap.size w w4 := k3.trans hb
  have p4 : w3.heap.size ≤ w4.heap.size := hb.size
  have bl0 := Nat.lt_of_lt_of_le bl0 hb.size
  have bl1 := Nat.lt_of_lt_of_le bl1 hb.size
  have bl2 := Nat.lt_of_lt_of_le bl2 hb.size
  have bl3 := Nat.lt_of_lt_of_le bl3 hb.size
  have bl4 := Nat.lt_of_lt_of_le bl4 hb.size
  have r_a := r_a.below hb
  have r_b := r_b.below hb
  have r_v := Reads.of_own o_v
  have bx0_0 : w4.cell? ⟨w.heap.size, 0, none⟩ = some (.slice A' n' c') := (hk0.cell 0).trans rfl
  have fz0_0 := hk0.frozen 0
  have bx1_0 : w4.cell? ⟨w.heap.size + 1, 0, none⟩ = some (.int .i64 base) := (hk1.cell 0).trans rfl
  have fz1_0 := hk1.frozen 0
  have bx1_1 : w4.cell? ⟨w.heap.size + 1, 1, none⟩ = some (.int .i64 size) := (hk1.cell 1).trans rfl
  have fz1_1 := hk1.frozen 1
  have bx1_2 : w4.cell? ⟨w.heap.size + 1, 2, none⟩ = some (.int .i64 head) := (hk1.cell 2).trans rfl
  have fz1_2 := hk1.frozen 2
  have bx1_3 : w4.cell? ⟨w.heap.size + 1, 3, none⟩ = some (.int .i64 ((tail + 1) % (2 * size))) := (hk1.cell 3).trans rfl
  have fz1_3 := hk1.frozen 3
  have bx2_0 : w4.cell? ⟨w.heap.size + 1 + 1, 0, none⟩ = some (.slice A_v n' c_v) := (hk2.cell 0).trans rfl
  have fz2_0 := hk2.frozen 0
  have bx3_0 : w4.cell? ⟨w.heap.size + 1 + 1 + 1, 0, none⟩ = some (.int .i64 base) := (hk3.cell 0).trans rfl
  have fz3_0 := hk3.frozen 0
  have bx3_1 : w4.cell? ⟨w.heap.size + 1 + 1 + 1, 1, none⟩ = some (.int .i64 size) := (hk3.cell 1).trans rfl
  have fz3_1 := hk3.frozen 1
  have bx3_2 : w4.cell? ⟨w.heap.size + 1 + 1 + 1, 2, none⟩ = some (.int .i64 head) := (hk3.cell 2).trans rfl
  have fz3_2 := hk3.frozen 2
  have bx3_3 : w4.cell? ⟨w.heap.size + 1 + 1 + 1, 3, none⟩ = some (.int .i64 ((tail + 1) % (2 * size))) := (hk3.cell 3).trans rfl
  have fz3_3 := hk3.frozen 3
  have bx4_0 : w4.cell? ⟨bk_4, 0, none⟩ = some (.slice A_v n' c_v) := (hk4.cell 0).trans rfl
  have fz4_0 := hk4.frozen 0
  clear hL hSt hb hz fx12
  all_goals
    go_wp2
    refine bodyPost_ret (v := .tuple #[.agg #[.slice A_v n' c_v], .agg #[.int .i64 base, .int .i64 size, .int .i64 head, .int .i64 ((tail + 1) % (2 * size))], .bool true]) (by simp [results, Try.results54, go_sem, bx2_0, bx3_0, bx3_1, bx3_2, bx3_3]) rfl ?_
    exact ⟨A_v, c_v, rfl, own_base o_v (by omega), k4⟩
theorem implRingPut_c (A A' : Option Addr) (n c n' c' : Nat) (l : List Mapping) (pg : List ByteArray) (w : World) (hn_a : l.length = n) (hn_b : pg.length = n') (hs_a : n ≤ 1048576) (hs_b : n' ≤ 1048576) (r_a : Reads w w.heap.size 4 A n (l.flatMap Mapping.cells)) (r_b : Reads w w.heap.size 1 A' n' (pg.flatMap fun x : ByteArray => [Value.string x])) (d base size head tail : Int) (s : ByteArray) (hh : I64 head) (ht : I64 tail) (hsz : s.size ≤ 1048576) :
    Calls Try.prog 54 #[.slice A n c, .agg #[.slice A' n' c'], .int .i64 d, .agg #[.int .i64 base, .int .i64 size, .int .i64 head, .int .i64 tail], .string s] w fun e w' => ∃ A2 c2, e = .returned (.tuple #[.agg #[.slice A2 n' c2], .agg #[.int .i64 base, .int .i64 size, .int .i64 head, .int .i64 (rputT l pg d base size head tail s)], .bool (rputB l pg d base size head tail s)]) ∧ w'.ownsRow w.heap.size 9 1 (.slice A2 n' c2) n' ((rputM l pg d base size head tail s).flatMap fun x : ByteArray => [Value.string x]) ∧ Below w.heap.size w w' := by
  by_cases hf : freeI base size head tail = 0
  · have hg : rputB l pg d base size head tail s = false := by rw [rputB, hf]; rfl
    rw [hg, (put_no hg).1, (put_no hg).2]
    exact implRingPut_1 A A' n c n' c' l pg w hn_a hn_b hs_a hs_b r_a r_b d base size head tail s hh ht hsz (by rw [hf]; rfl)
  · have hf2 : (freeI base size head tail == 0) = false := by simpa using hf
    by_cases h16 : s.size = 16
    · cases hd : dmaOk l pg d (slotI base size head tail tail) s.size true
      · have hg : rputB l pg d base size head tail s = false := by
          have hd2 : dmaOk l pg d (slotI base size head tail tail) 16 true = false := by have h5 := hd; rw [h16] at h5; exact h5
          rw [rputB, hd2, Bool.and_false, Bool.and_false]
        rw [hg, (put_no hg).1, (put_no hg).2]
        exact implRingPut_3 A A' n c n' c' l pg w hn_a hn_b hs_a hs_b r_a r_b d base size head tail s hh ht hsz hf2 (by simp [h16]) (by simp [h16]) (freeI_ok hf) hd
      · have hg : rputB l pg d base size head tail s = true := by
          have hd2 : dmaOk l pg d (slotI base size head tail tail) 16 true = true := by have h5 := hd; rw [h16] at h5; exact h5
          rw [rputB, hd2, hf2, show decide (s.size = 16) = true by simpa using h16]; rfl
        rw [hg, (put_yes hg).1, (put_yes hg).2]
        exact implRingPut_4 A A' n c n' c' l pg w hn_a hn_b hs_a hs_b r_a r_b d base size head tail s hh ht hsz hf2 (by simp [h16]) (by simp [h16]) (freeI_ok hf) hd
    · have hg : rputB l pg d base size head tail s = false := by rw [rputB, show decide (s.size = 16) = false by simpa using h16, Bool.false_and, Bool.and_false]
      rw [hg, (put_no hg).1, (put_no hg).2]
      exact implRingPut_2 A A' n c n' c' l pg w hn_a hn_b hs_a hs_b r_a r_b d base size head tail s hh ht hsz hf2 (by simp; omega) (by simp; omega)
set_option maxRecDepth 100000 in
set_option maxHeartbeats 2000000 in
theorem specRingPut_1 (A A' : Option Addr) (n c n' c' : Nat) (l : List Mapping) (pg : List ByteArray) (w : World) (hn_a : l.length = n) (hn_b : pg.length = n') (hs_a : n ≤ 1048576) (hs_b : n' ≤ 1048576) (r_a : Reads w w.heap.size 4 A n (l.flatMap Mapping.cells)) (r_b : Reads w w.heap.size 1 A' n' (pg.flatMap fun x : ByteArray => [Value.string x])) (d base size head tail : Int) (s : ByteArray) (hh : I64 head) (ht : I64 tail) (hsz : s.size ≤ 1048576) (hf2 : (freeI base size head tail == 0) = true) :
    Calls Try.prog 52 #[.slice A n c, .agg #[.slice A' n' c'], .int .i64 d, .agg #[.int .i64 base, .int .i64 size, .int .i64 head, .int .i64 tail], .string s] w fun e w' => ∃ A2 c2, e = .returned (.tuple #[.agg #[.slice A2 n' c2], .agg #[.int .i64 base, .int .i64 size, .int .i64 head, .int .i64 tail], .bool false]) ∧ w'.ownsRow w.heap.size 9 1 (.slice A2 n' c2) n' (pg.flatMap fun x : ByteArray => [Value.string x]) ∧ Below w.heap.size w w' := by
  go_enter Try.func52, Try.ntmps52
  go_wp2_with fail
  have k0 : Below w.heap.size w ((((w.alloc (.cells #[.slice A' n' c'] 39)).alloc (.cells #[.int .i64 base, .int .i64 size, .int .i64 head, .int .i64 tail] 69)).alloc (.cells #[.slice none 0 0] 39)).alloc (.cells #[.int .i64 0, .int .i64 0, .int .i64 0, .int .i64 0] 69)) := by go_grown
  have bx0_0 : ((((w.alloc (.cells #[.slice A' n' c'] 39)).alloc (.cells #[.int .i64 base, .int .i64 size, .int .i64 head, .int .i64 tail] 69)).alloc (.cells #[.slice none 0 0] 39)).alloc (.cells #[.int .i64 0, .int .i64 0, .int .i64 0, .int .i64 0] 69)).cell? ⟨w.heap.size, 0, none⟩ = some (.slice A' n' c') := by simp [go_sem]
  have bl0 : w.heap.size < ((((w.alloc (.cells #[.slice A' n' c'] 39)).alloc (.cells #[.int .i64 base, .int .i64 size, .int .i64 head, .int .i64 tail] 69)).alloc (.cells #[.slice none 0 0] 39)).alloc (.cells #[.int .i64 0, .int .i64 0, .int .i64 0, .int .i64 0] 69)).heap.size := by go_size
  have hk0 : Blk ((((w.alloc (.cells #[.slice A' n' c'] 39)).alloc (.cells #[.int .i64 base, .int .i64 size, .int .i64 head, .int .i64 tail] 69)).alloc (.cells #[.slice none 0 0] 39)).alloc (.cells #[.int .i64 0, .int .i64 0, .int .i64 0, .int .i64 0] 69)) (w.heap.size) 39 [.slice A' n' c'] := by simpa using (((Blk.new w 39 [.slice A' n' c']).alloc (.cells #[.int .i64 base, .int .i64 size, .int .i64 head, .int .i64 tail] 69)).alloc (.cells #[.slice none 0 0] 39)).alloc (.cells #[.int .i64 0, .int .i64 0, .int .i64 0, .int .i64 0] 69)
  have bx1_0 : ((((w.alloc (.cells #[.slice A' n' c'] 39)).alloc (.cells #[.int .i64 base, .int .i64 size, .int .i64 head, .int .i64 tail] 69)).alloc (.cells #[.slice none 0 0] 39)).alloc (.cells #[.int .i64 0, .int .i64 0, .int .i64 0, .int .i64 0] 69)).cell? ⟨w.heap.size + 1, 0, none⟩ = some (.int .i64 base) := by simp [go_sem]
  have bx1_1 : ((((w.alloc (.cells #[.slice A' n' c'] 39)).alloc (.cells #[.int .i64 base, .int .i64 size, .int .i64 head, .int .i64 tail] 69)).alloc (.cells #[.slice none 0 0] 39)).alloc (.cells #[.int .i64 0, .int .i64 0, .int .i64 0, .int .i64 0] 69)).cell? ⟨w.heap.size + 1, 1, none⟩ = some (.int .i64 size) := by simp [go_sem]
  have bx1_2 : ((((w.alloc (.cells #[.slice A' n' c'] 39)).alloc (.cells #[.int .i64 base, .int .i64 size, .int .i64 head, .int .i64 tail] 69)).alloc (.cells #[.slice none 0 0] 39)).alloc (.cells #[.int .i64 0, .int .i64 0, .int .i64 0, .int .i64 0] 69)).cell? ⟨w.heap.size + 1, 2, none⟩ = some (.int .i64 head) := by simp [go_sem]
  have bx1_3 : ((((w.alloc (.cells #[.slice A' n' c'] 39)).alloc (.cells #[.int .i64 base, .int .i64 size, .int .i64 head, .int .i64 tail] 69)).alloc (.cells #[.slice none 0 0] 39)).alloc (.cells #[.int .i64 0, .int .i64 0, .int .i64 0, .int .i64 0] 69)).cell? ⟨w.heap.size + 1, 3, none⟩ = some (.int .i64 tail) := by simp [go_sem]
  have bl1 : w.heap.size + 1 < ((((w.alloc (.cells #[.slice A' n' c'] 39)).alloc (.cells #[.int .i64 base, .int .i64 size, .int .i64 head, .int .i64 tail] 69)).alloc (.cells #[.slice none 0 0] 39)).alloc (.cells #[.int .i64 0, .int .i64 0, .int .i64 0, .int .i64 0] 69)).heap.size := by go_size
  have hk1 : Blk ((((w.alloc (.cells #[.slice A' n' c'] 39)).alloc (.cells #[.int .i64 base, .int .i64 size, .int .i64 head, .int .i64 tail] 69)).alloc (.cells #[.slice none 0 0] 39)).alloc (.cells #[.int .i64 0, .int .i64 0, .int .i64 0, .int .i64 0] 69)) (w.heap.size + 1) 69 [.int .i64 base, .int .i64 size, .int .i64 head, .int .i64 tail] := by simpa using ((Blk.new (w.alloc (.cells #[.slice A' n' c'] 39)) 69 [.int .i64 base, .int .i64 size, .int .i64 head, .int .i64 tail]).alloc (.cells #[.slice none 0 0] 39)).alloc (.cells #[.int .i64 0, .int .i64 0, .int .i64 0, .int .i64 0] 69)
  have bx2_0 : ((((w.alloc (.cells #[.slice A' n' c'] 39)).alloc (.cells #[.int .i64 base, .int .i64 size, .int .i64 head, .int .i64 tail] 69)).alloc (.cells #[.slice none 0 0] 39)).alloc (.cells #[.int .i64 0, .int .i64 0, .int .i64 0, .int .i64 0] 69)).cell? ⟨w.heap.size + 1 + 1, 0, none⟩ = some (.slice none 0 0) := by simp [go_sem]
  have bl2 : w.heap.size + 1 + 1 < ((((w.alloc (.cells #[.slice A' n' c'] 39)).alloc (.cells #[.int .i64 base, .int .i64 size, .int .i64 head, .int .i64 tail] 69)).alloc (.cells #[.slice none 0 0] 39)).alloc (.cells #[.int .i64 0, .int .i64 0, .int .i64 0, .int .i64 0] 69)).heap.size := by go_size
  have hk2 : Blk ((((w.alloc (.cells #[.slice A' n' c'] 39)).alloc (.cells #[.int .i64 base, .int .i64 size, .int .i64 head, .int .i64 tail] 69)).alloc (.cells #[.slice none 0 0] 39)).alloc (.cells #[.int .i64 0, .int .i64 0, .int .i64 0, .int .i64 0] 69)) (w.heap.size + 1 + 1) 39 [.slice none 0 0] := by simpa using (Blk.new ((w.alloc (.cells #[.slice A' n' c'] 39)).alloc (.cells #[.int .i64 base, .int .i64 size, .int .i64 head, .int .i64 tail] 69)) 39 [.slice none 0 0]).alloc (.cells #[.int .i64 0, .int .i64 0, .int .i64 0, .int .i64 0] 69)
  have bx3_0 : ((((w.alloc (.cells #[.slice A' n' c'] 39)).alloc (.cells #[.int .i64 base, .int .i64 size, .int .i64 head, .int .i64 tail] 69)).alloc (.cells #[.slice none 0 0] 39)).alloc (.cells #[.int .i64 0, .int .i64 0, .int .i64 0, .int .i64 0] 69)).cell? ⟨w.heap.size + 1 + 1 + 1, 0, none⟩ = some (.int .i64 0) := by simp [go_sem]
  have bx3_1 : ((((w.alloc (.cells #[.slice A' n' c'] 39)).alloc (.cells #[.int .i64 base, .int .i64 size, .int .i64 head, .int .i64 tail] 69)).alloc (.cells #[.slice none 0 0] 39)).alloc (.cells #[.int .i64 0, .int .i64 0, .int .i64 0, .int .i64 0] 69)).cell? ⟨w.heap.size + 1 + 1 + 1, 1, none⟩ = some (.int .i64 0) := by simp [go_sem]
  have bx3_2 : ((((w.alloc (.cells #[.slice A' n' c'] 39)).alloc (.cells #[.int .i64 base, .int .i64 size, .int .i64 head, .int .i64 tail] 69)).alloc (.cells #[.slice none 0 0] 39)).alloc (.cells #[.int .i64 0, .int .i64 0, .int .i64 0, .int .i64 0] 69)).cell? ⟨w.heap.size + 1 + 1 + 1, 2, none⟩ = some (.int .i64 0) := by simp [go_sem]
  have bx3_3 : ((((w.alloc (.cells #[.slice A' n' c'] 39)).alloc (.cells #[.int .i64 base, .int .i64 size, .int .i64 head, .int .i64 tail] 69)).alloc (.cells #[.slice none 0 0] 39)).alloc (.cells #[.int .i64 0, .int .i64 0, .int .i64 0, .int .i64 0] 69)).cell? ⟨w.heap.size + 1 + 1 + 1, 3, none⟩ = some (.int .i64 0) := by simp [go_sem]
  have bl3 : w.heap.size + 1 + 1 + 1 < ((((w.alloc (.cells #[.slice A' n' c'] 39)).alloc (.cells #[.int .i64 base, .int .i64 size, .int .i64 head, .int .i64 tail] 69)).alloc (.cells #[.slice none 0 0] 39)).alloc (.cells #[.int .i64 0, .int .i64 0, .int .i64 0, .int .i64 0] 69)).heap.size := by go_size
  have hk3 : Blk ((((w.alloc (.cells #[.slice A' n' c'] 39)).alloc (.cells #[.int .i64 base, .int .i64 size, .int .i64 head, .int .i64 tail] 69)).alloc (.cells #[.slice none 0 0] 39)).alloc (.cells #[.int .i64 0, .int .i64 0, .int .i64 0, .int .i64 0] 69)) (w.heap.size + 1 + 1 + 1) 69 [.int .i64 0, .int .i64 0, .int .i64 0, .int .i64 0] := by simpa using Blk.new (((w.alloc (.cells #[.slice A' n' c'] 39)).alloc (.cells #[.int .i64 base, .int .i64 size, .int .i64 head, .int .i64 tail] 69)).alloc (.cells #[.slice none 0 0] 39)) 69 [.int .i64 0, .int .i64 0, .int .i64 0, .int .i64 0]
  have r_a := r_a.below k0
  have r_b := r_b.below k0
  have p0 := k0.size
  generalize hW0 : ((((w.alloc (.cells #[.slice A' n' c'] 39)).alloc (.cells #[.int .i64 base, .int .i64 size, .int .i64 head, .int .i64 tail] 69)).alloc (.cells #[.slice none 0 0] 39)).alloc (.cells #[.int .i64 0, .int .i64 0, .int .i64 0, .int .i64 0] 69)) = w0 at *
  clear hW0
  have bx0_0 : w0.cell? ⟨w.heap.size, 0, none⟩ = some (.slice A' n' c') := (hk0.cell 0).trans rfl
  have fz0_0 := hk0.frozen 0
  have bx1_0 : w0.cell? ⟨w.heap.size + 1, 0, none⟩ = some (.int .i64 base) := (hk1.cell 0).trans rfl
  have fz1_0 := hk1.frozen 0
  have bx1_1 : w0.cell? ⟨w.heap.size + 1, 1, none⟩ = some (.int .i64 size) := (hk1.cell 1).trans rfl
  have fz1_1 := hk1.frozen 1
  have bx1_2 : w0.cell? ⟨w.heap.size + 1, 2, none⟩ = some (.int .i64 head) := (hk1.cell 2).trans rfl
  have fz1_2 := hk1.frozen 2
  have bx1_3 : w0.cell? ⟨w.heap.size + 1, 3, none⟩ = some (.int .i64 tail) := (hk1.cell 3).trans rfl
  have fz1_3 := hk1.frozen 3
  have bx2_0 : w0.cell? ⟨w.heap.size + 1 + 1, 0, none⟩ = some (.slice none 0 0) := (hk2.cell 0).trans rfl
  have fz2_0 := hk2.frozen 0
  have bx3_0 : w0.cell? ⟨w.heap.size + 1 + 1 + 1, 0, none⟩ = some (.int .i64 0) := (hk3.cell 0).trans rfl
  have fz3_0 := hk3.frozen 0
  have bx3_1 : w0.cell? ⟨w.heap.size + 1 + 1 + 1, 1, none⟩ = some (.int .i64 0) := (hk3.cell 1).trans rfl
  have fz3_1 := hk3.frozen 1
  have bx3_2 : w0.cell? ⟨w.heap.size + 1 + 1 + 1, 2, none⟩ = some (.int .i64 0) := (hk3.cell 2).trans rfl
  have fz3_2 := hk3.frozen 2
  have bx3_3 : w0.cell? ⟨w.heap.size + 1 + 1 + 1, 3, none⟩ = some (.int .i64 0) := (hk3.cell 3).trans rfl
  have fz3_3 := hk3.frozen 3
  refine (specRingFree_c _ _ _ _ _ hh ht).mono ?_
  rintro e w1 ⟨rfl, hb⟩
  have k1 : Below w.heap.size w w1 := ext_step k0 (by omega) hb
  have p1 := hb.size
  have hk0 := hk0.ext hb
  have hk1 := hk1.ext hb
  have hk2 := hk2.ext hb
  have hk3 := hk3.ext hb
  have bx0_0 : w1.cell? ⟨w.heap.size, 0, none⟩ = some (.slice A' n' c') := (hk0.cell 0).trans rfl
  have fz0_0 := hk0.frozen 0
  have bx1_0 : w1.cell? ⟨w.heap.size + 1, 0, none⟩ = some (.int .i64 base) := (hk1.cell 0).trans rfl
  have fz1_0 := hk1.frozen 0
  have bx1_1 : w1.cell? ⟨w.heap.size + 1, 1, none⟩ = some (.int .i64 size) := (hk1.cell 1).trans rfl
  have fz1_1 := hk1.frozen 1
  have bx1_2 : w1.cell? ⟨w.heap.size + 1, 2, none⟩ = some (.int .i64 head) := (hk1.cell 2).trans rfl
  have fz1_2 := hk1.frozen 2
  have bx1_3 : w1.cell? ⟨w.heap.size + 1, 3, none⟩ = some (.int .i64 tail) := (hk1.cell 3).trans rfl
  have fz1_3 := hk1.frozen 3
  have bx2_0 : w1.cell? ⟨w.heap.size + 1 + 1, 0, none⟩ = some (.slice none 0 0) := (hk2.cell 0).trans rfl
  have fz2_0 := hk2.frozen 0
  have bx3_0 : w1.cell? ⟨w.heap.size + 1 + 1 + 1, 0, none⟩ = some (.int .i64 0) := (hk3.cell 0).trans rfl
  have fz3_0 := hk3.frozen 0
  have bx3_1 : w1.cell? ⟨w.heap.size + 1 + 1 + 1, 1, none⟩ = some (.int .i64 0) := (hk3.cell 1).trans rfl
  have fz3_1 := hk3.frozen 1
  have bx3_2 : w1.cell? ⟨w.heap.size + 1 + 1 + 1, 2, none⟩ = some (.int .i64 0) := (hk3.cell 2).trans rfl
  have fz3_2 := hk3.frozen 2
  have bx3_3 : w1.cell? ⟨w.heap.size + 1 + 1 + 1, 3, none⟩ = some (.int .i64 0) := (hk3.cell 3).trans rfl
  have fz3_3 := hk3.frozen 3
  have bl0 := Nat.lt_of_lt_of_le bl0 hb.size
  have bl1 := Nat.lt_of_lt_of_le bl1 hb.size
  have bl2 := Nat.lt_of_lt_of_le bl2 hb.size
  have bl3 := Nat.lt_of_lt_of_le bl3 hb.size
  have r_a := r_a.below (hb.mono (by omega))
  have r_b := r_b.below (hb.mono (by omega))
  clear hb
  go_wp2_with fail
  refine wp_region_slotsS (w.heap.size) [(23, fun _ v => v = .agg #[.slice A' n' c']), (24, RowP w1.heap.size 9 1 n' (pg.flatMap fun x : ByteArray => [Value.string x]) (fun A c => .agg #[.slice A n' c])), (25, fun _ v => v = .agg #[.int .i64 base, .int .i64 size, .int .i64 head, .int .i64 tail]), (12, fun _ v => v = .bool false)] [⟨3, 24, fun u => Blk u (w.heap.size + 1 + 1) 39 [.slice none 0 0], StaR w1.heap.size (w.heap.size + 1 + 1) 39 9 1 n' (pg.flatMap fun x : ByteArray => [Value.string x]) (fun A c => .agg #[.slice A n' c]) (fun A c => [.slice A n' c])⟩, ⟨4, 25, fun u => Blk u (w.heap.size + 1 + 1 + 1) 69 [.int .i64 0, .int .i64 0, .int .i64 0, .int .i64 0], fun u _ => Blk u (w.heap.size + 1 + 1 + 1) 69 [.int .i64 base, .int .i64 size, .int .i64 head, .int .i64 tail]⟩] (fun u => Blk u (w.heap.size) 39 [.slice A' n' c'] ∧ Blk u (w.heap.size + 1) 69 [.int .i64 base, .int .i64 size, .int .i64 head, .int .i64 tail]) (by kernel_rfl) (by omega) (by kernel_rfl) (by kernel_rfl) (by kernel_rfl) (by kernel_rfl) ?_ ?_ ?_ ?_ ?_ ?_ ?_
  · intro p hp
    simp only [List.mem_cons, List.not_mem_nil, or_false] at hp
    rcases hp with rfl | rfl | rfl | rfl
    all_goals (intro u u' v hb hv; first | exact hv | exact BoxP.keep hv hb | exact RowP.keep hv hb)
  · intro s hs u u' hb
    simp only [List.mem_cons, List.not_mem_nil, or_false] at hs
    rcases hs with rfl | rfl
    all_goals (refine ⟨fun h => ?_, fun _ h => ?_⟩ <;> first | exact h | exact StoP.keep h hb | exact StoR.keep h hb | exact Blk.ext h hb | exact StaR.keep h hb)
  · intro s hs
    simp only [List.mem_cons, List.not_mem_nil, or_false] at hs
    rcases hs with rfl | rfl
    all_goals first | trivial | exact hk2 | exact hk3
  · exact ⟨hk0, hk1⟩
  · intro u u' hb hj
    obtain ⟨j0, j1⟩ := hj
    exact ⟨(j0.ext hb), (j1.ext hb)⟩
  · intro hGk hSk hJk
    refine allStep_cons (stepS_plain hGk hSk (by omega) hJk (by kernel_rfl) rfl ?_) ?_
    · intro a u hb hz hj hl hp K Q hK
      have e6 : a.tmps[6]?.getD undef = .pointer (some ⟨w.heap.size, 0, none⟩) := gd (hl 6 (by kernel_rfl))
      obtain ⟨j0, j1⟩ := hj
      have hBb := j0
      have gb0 : u.cell? ⟨w.heap.size, 0, none⟩ = some (.slice A' n' c') := (hBb.cell 0).trans rfl
      go_simp
      exact hK _ _ (Below.refl _ _) (by intro d hd; cases hd; exact rfl)
    refine allStep_cons (stepS_plain hGk hSk (by omega) hJk (by kernel_rfl) rfl ?_) ?_
    · intro a u hb hz hj hl hp K Q hK
      have e23 : a.tmps[23]?.getD undef = .agg #[.slice A' n' c'] := gd (hl 23 (by kernel_rfl))
      go_simp
      refine (l16Copy_c _ _ _ pg _ hn_b (by omega) ((r_b.below (hb.mono (by omega))).more (by omega))).mono ?_
      rintro e u1 ⟨A_q, c_q, rfl, o_q, hb1⟩
      exact hK _ _ hb1 (by intro d hd; cases hd; exact ⟨A_q, c_q, rfl, own_base o_q (by omega)⟩)
    refine allStep_cons (stepS_plain hGk hSk (by omega) hJk (by kernel_rfl) rfl ?_) ?_
    · intro a u hb hz hj hl hp K Q hK
      have e8 : a.tmps[8]?.getD undef = .pointer (some ⟨w.heap.size + 1, 0, none⟩) := gd (hl 8 (by kernel_rfl))
      obtain ⟨j0, j1⟩ := hj
      have hBb := j1
      have gb0 : u.cell? ⟨w.heap.size + 1, 0, none⟩ = some (.int .i64 base) := (hBb.cell 0).trans rfl
      have gb1 : u.cell? ⟨w.heap.size + 1, 1, none⟩ = some (.int .i64 size) := (hBb.cell 1).trans rfl
      have gb2 : u.cell? ⟨w.heap.size + 1, 2, none⟩ = some (.int .i64 head) := (hBb.cell 2).trans rfl
      have gb3 : u.cell? ⟨w.heap.size + 1, 3, none⟩ = some (.int .i64 tail) := (hBb.cell 3).trans rfl
      go_simp
      exact hK _ _ (Below.refl _ _) (by intro d hd; cases hd; exact rfl)
    refine allStep_cons (stepS_store (ChgA (w.heap.size + 1 + 1)) (fun _ _ hc hb => hc.below (by omega) hb) (fun _ _ hc => hc.size) (hold_rel ?_) ?_ ?_ rfl rfl ?_) ?_
    · intro p hp
      simp only [List.mem_cons, List.not_mem_nil, or_false] at hp
      rcases hp with rfl | rfl | rfl | rfl
      all_goals (intro u u' v hb hv; first | exact hv | exact BoxP.chgA hv hb (by omega) | exact RowP.chgA hv hb (by omega))
    · intro s hs hne u u' hb
      simp only [List.mem_cons, List.not_mem_nil, or_false] at hs
      rcases hs with rfl | rfl
      all_goals first | exact absurd (by rfl) hne | (refine ⟨fun h => ?_, fun _ h => ?_⟩ <;> first | exact h | exact Blk.chgA h hb (by omega) | exact StoP.chgA h hb (by omega) | exact StoR.chgA h hb (by omega) | exact StaR.chgA h hb (by omega) (by omega))
    · intro u u' hb hj
      obtain ⟨j0, j1⟩ := hj
      exact ⟨(j0.chgA hb (by omega)), (j1.chgA hb (by omega))⟩
    · intro a u hb hz hj hl hp K Q hK
      have e10 : a.tmps[10]?.getD undef = .pointer (some ⟨w.heap.size + 1 + 1, 0, none⟩) := gd (hl 10 (by kernel_rfl))
      have hBs : Blk u (w.heap.size + 1 + 1) 39 [.slice none 0 0] := hp _ (List.mem_of_getElem? (i := 0) rfl) (by kernel_rfl)
      have gs0 : u.cell? ⟨w.heap.size + 1 + 1, 0, none⟩ = some (.slice none 0 0) := (hBs.cell 0).trans rfl
      have f0 := hBs.frozen 0
      obtain ⟨A2, c2, ex24, o2⟩ : RowP w1.heap.size 9 1 n' (pg.flatMap fun x : ByteArray => [Value.string x]) (fun A c => .agg #[.slice A n' c]) u (a.tmps.getD 24 undef) := hl 24 (by kernel_rfl)
      have e24 := gd ex24
      go_simp
      refine hK undef _ ((ChgA.refl _ _).set 0 _) (fun s hs he => ?_)
      simp only [List.mem_cons, List.not_mem_nil, or_false] at hs
      rcases hs with rfl | rfl
      · exact ⟨A2, c2, ex24, (hBs.set_ 0 _), own_chgA o2 ((ChgA.refl _ _).set 0 _) (fun k hk => by have := (o2.lt k hk).1; omega)⟩
      · exact absurd (show (4 : Nat) = 3 from he) (by decide)
    refine allStep_cons (stepS_store (ChgA (w.heap.size + 1 + 1 + 1)) (fun _ _ hc hb => hc.below (by omega) hb) (fun _ _ hc => hc.size) (hold_rel ?_) ?_ ?_ rfl rfl ?_) ?_
    · intro p hp
      simp only [List.mem_cons, List.not_mem_nil, or_false] at hp
      rcases hp with rfl | rfl | rfl | rfl
      all_goals (intro u u' v hb hv; first | exact hv | exact BoxP.chgA hv hb (by omega) | exact RowP.chgA hv hb (by omega))
    · intro s hs hne u u' hb
      simp only [List.mem_cons, List.not_mem_nil, or_false] at hs
      rcases hs with rfl | rfl
      all_goals first | exact absurd (by rfl) hne | (refine ⟨fun h => ?_, fun _ h => ?_⟩ <;> first | exact h | exact Blk.chgA h hb (by omega) | exact StoP.chgA h hb (by omega) | exact StoR.chgA h hb (by omega) | exact StaR.chgA h hb (by omega) (by omega))
    · intro u u' hb hj
      obtain ⟨j0, j1⟩ := hj
      exact ⟨(j0.chgA hb (by omega)), (j1.chgA hb (by omega))⟩
    · intro a u hb hz hj hl hp K Q hK
      have e11 : a.tmps[11]?.getD undef = .pointer (some ⟨w.heap.size + 1 + 1 + 1, 0, none⟩) := gd (hl 11 (by kernel_rfl))
      have hBs : Blk u (w.heap.size + 1 + 1 + 1) 69 [.int .i64 0, .int .i64 0, .int .i64 0, .int .i64 0] := hp _ (List.mem_of_getElem? (i := 1) rfl) (by kernel_rfl)
      have gs0 : u.cell? ⟨w.heap.size + 1 + 1 + 1, 0, none⟩ = some (.int .i64 0) := (hBs.cell 0).trans rfl
      have gs1 : u.cell? ⟨w.heap.size + 1 + 1 + 1, 1, none⟩ = some (.int .i64 0) := (hBs.cell 1).trans rfl
      have gs2 : u.cell? ⟨w.heap.size + 1 + 1 + 1, 2, none⟩ = some (.int .i64 0) := (hBs.cell 2).trans rfl
      have gs3 : u.cell? ⟨w.heap.size + 1 + 1 + 1, 3, none⟩ = some (.int .i64 0) := (hBs.cell 3).trans rfl
      have f0 := hBs.frozen 0
      have f1 := hBs.frozen 1
      have f2 := hBs.frozen 2
      have f3 := hBs.frozen 3
      have e25 : a.tmps[25]?.getD undef = .agg #[.int .i64 base, .int .i64 size, .int .i64 head, .int .i64 tail] := gd (hl 25 (by kernel_rfl))
      go_simp
      refine hK undef _ (((((ChgA.refl _ _).set 0 _).set 1 _).set 2 _).set 3 _) (fun s hs he => ?_)
      simp only [List.mem_cons, List.not_mem_nil, or_false] at hs
      rcases hs with rfl | rfl
      · exact absurd (show (3 : Nat) = 4 from he) (by decide)
      · exact ((((hBs.set_ 0 _).set_ 1 _).set_ 2 _).set_ 3 _)
    refine allStep_cons (stepS_plain hGk hSk (by omega) hJk (by kernel_rfl) rfl ?_) ?_
    · intro a u hb hz hj hl hp K Q hK
      go_simp
      exact hK _ _ (Below.refl _ _) (by intro d hd; cases hd; exact rfl)
    exact allStep_nil
  intro x w2 hb hz hj hL hSt
  obtain ⟨hk0, hk1⟩ := hj
  have fx12 : x 12 = .bool false := hL _ (List.mem_of_getElem? (i := 3) rfl)
  obtain ⟨A_q, c_q, fy, hk2, o_q⟩ : StaR w1.heap.size (w.heap.size + 1 + 1) 39 9 1 n' (pg.flatMap fun x : ByteArray => [Value.string x]) (fun A c => .agg #[.slice A n' c]) (fun A c => [.slice A n' c]) w2 (x 24) := hSt _ (List.mem_of_getElem? (i := 0) rfl)
  clear fy
  have hk3 : Blk w2 (w.heap.size + 1 + 1 + 1) 69 [.int .i64 base, .int .i64 size, .int .i64 head, .int .i64 tail] := hSt _ (List.mem_of_getElem? (i := 1) rfl)
  simp only [List.map, putAll, fx12]
  have k2 : Below w.heap.size w w2 := k1.trans hb
  have p2 : w1.heap.size ≤ w2.heap.size := hb.size
  have bl0 := Nat.lt_of_lt_of_le bl0 hb.size
  have bl1 := Nat.lt_of_lt_of_le bl1 hb.size
  have bl2 := Nat.lt_of_lt_of_le bl2 hb.size
  have bl3 := Nat.lt_of_lt_of_le bl3 hb.size
  have r_a := r_a.below hb
  have r_b := r_b.below hb
  have r_q := Reads.of_own o_q
  have u_q := fun k hk => (o_q.lt k hk).2
  have bx0_0 : w2.cell? ⟨w.heap.size, 0, none⟩ = some (.slice A' n' c') := (hk0.cell 0).trans rfl
  have fz0_0 := hk0.frozen 0
  have bx1_0 : w2.cell? ⟨w.heap.size + 1, 0, none⟩ = some (.int .i64 base) := (hk1.cell 0).trans rfl
  have fz1_0 := hk1.frozen 0
  have bx1_1 : w2.cell? ⟨w.heap.size + 1, 1, none⟩ = some (.int .i64 size) := (hk1.cell 1).trans rfl
  have fz1_1 := hk1.frozen 1
  have bx1_2 : w2.cell? ⟨w.heap.size + 1, 2, none⟩ = some (.int .i64 head) := (hk1.cell 2).trans rfl
  have fz1_2 := hk1.frozen 2
  have bx1_3 : w2.cell? ⟨w.heap.size + 1, 3, none⟩ = some (.int .i64 tail) := (hk1.cell 3).trans rfl
  have fz1_3 := hk1.frozen 3
  have bx2_0 : w2.cell? ⟨w.heap.size + 1 + 1, 0, none⟩ = some (.slice A_q n' c_q) := (hk2.cell 0).trans rfl
  have fz2_0 := hk2.frozen 0
  have bx3_0 : w2.cell? ⟨w.heap.size + 1 + 1 + 1, 0, none⟩ = some (.int .i64 base) := (hk3.cell 0).trans rfl
  have fz3_0 := hk3.frozen 0
  have bx3_1 : w2.cell? ⟨w.heap.size + 1 + 1 + 1, 1, none⟩ = some (.int .i64 size) := (hk3.cell 1).trans rfl
  have fz3_1 := hk3.frozen 1
  have bx3_2 : w2.cell? ⟨w.heap.size + 1 + 1 + 1, 2, none⟩ = some (.int .i64 head) := (hk3.cell 2).trans rfl
  have fz3_2 := hk3.frozen 2
  have bx3_3 : w2.cell? ⟨w.heap.size + 1 + 1 + 1, 3, none⟩ = some (.int .i64 tail) := (hk3.cell 3).trans rfl
  have fz3_3 := hk3.frozen 3
  clear hL hSt hb hz fx12
  all_goals
    go_wp2
    refine bodyPost_ret (v := .tuple #[.agg #[.slice A_q n' c_q], .agg #[.int .i64 base, .int .i64 size, .int .i64 head, .int .i64 tail], .bool false]) (by simp [results, Try.results52, go_sem, bx2_0, bx3_0, bx3_1, bx3_2, bx3_3]) rfl ?_
    exact ⟨A_q, c_q, rfl, own_base o_q (by omega), k2⟩
set_option maxRecDepth 100000 in
set_option maxHeartbeats 2000000 in
theorem specRingPut_2 (A A' : Option Addr) (n c n' c' : Nat) (l : List Mapping) (pg : List ByteArray) (w : World) (hn_a : l.length = n) (hn_b : pg.length = n') (hs_a : n ≤ 1048576) (hs_b : n' ≤ 1048576) (r_a : Reads w w.heap.size 4 A n (l.flatMap Mapping.cells)) (r_b : Reads w w.heap.size 1 A' n' (pg.flatMap fun x : ByteArray => [Value.string x])) (d base size head tail : Int) (s : ByteArray) (hh : I64 head) (ht : I64 tail) (hsz : s.size ≤ 1048576) (hf2 : (freeI base size head tail == 0) = false) (h17 : ((s.size : Int) == 16) = false) (h18 : ((s.size : Int) != 16) = true) :
    Calls Try.prog 52 #[.slice A n c, .agg #[.slice A' n' c'], .int .i64 d, .agg #[.int .i64 base, .int .i64 size, .int .i64 head, .int .i64 tail], .string s] w fun e w' => ∃ A2 c2, e = .returned (.tuple #[.agg #[.slice A2 n' c2], .agg #[.int .i64 base, .int .i64 size, .int .i64 head, .int .i64 tail], .bool false]) ∧ w'.ownsRow w.heap.size 9 1 (.slice A2 n' c2) n' (pg.flatMap fun x : ByteArray => [Value.string x]) ∧ Below w.heap.size w w' := by
  go_enter Try.func52, Try.ntmps52
  go_wp2_with fail
  have k0 : Below w.heap.size w ((((w.alloc (.cells #[.slice A' n' c'] 39)).alloc (.cells #[.int .i64 base, .int .i64 size, .int .i64 head, .int .i64 tail] 69)).alloc (.cells #[.slice none 0 0] 39)).alloc (.cells #[.int .i64 0, .int .i64 0, .int .i64 0, .int .i64 0] 69)) := by go_grown
  have bx0_0 : ((((w.alloc (.cells #[.slice A' n' c'] 39)).alloc (.cells #[.int .i64 base, .int .i64 size, .int .i64 head, .int .i64 tail] 69)).alloc (.cells #[.slice none 0 0] 39)).alloc (.cells #[.int .i64 0, .int .i64 0, .int .i64 0, .int .i64 0] 69)).cell? ⟨w.heap.size, 0, none⟩ = some (.slice A' n' c') := by simp [go_sem]
  have bl0 : w.heap.size < ((((w.alloc (.cells #[.slice A' n' c'] 39)).alloc (.cells #[.int .i64 base, .int .i64 size, .int .i64 head, .int .i64 tail] 69)).alloc (.cells #[.slice none 0 0] 39)).alloc (.cells #[.int .i64 0, .int .i64 0, .int .i64 0, .int .i64 0] 69)).heap.size := by go_size
  have hk0 : Blk ((((w.alloc (.cells #[.slice A' n' c'] 39)).alloc (.cells #[.int .i64 base, .int .i64 size, .int .i64 head, .int .i64 tail] 69)).alloc (.cells #[.slice none 0 0] 39)).alloc (.cells #[.int .i64 0, .int .i64 0, .int .i64 0, .int .i64 0] 69)) (w.heap.size) 39 [.slice A' n' c'] := by simpa using (((Blk.new w 39 [.slice A' n' c']).alloc (.cells #[.int .i64 base, .int .i64 size, .int .i64 head, .int .i64 tail] 69)).alloc (.cells #[.slice none 0 0] 39)).alloc (.cells #[.int .i64 0, .int .i64 0, .int .i64 0, .int .i64 0] 69)
  have bx1_0 : ((((w.alloc (.cells #[.slice A' n' c'] 39)).alloc (.cells #[.int .i64 base, .int .i64 size, .int .i64 head, .int .i64 tail] 69)).alloc (.cells #[.slice none 0 0] 39)).alloc (.cells #[.int .i64 0, .int .i64 0, .int .i64 0, .int .i64 0] 69)).cell? ⟨w.heap.size + 1, 0, none⟩ = some (.int .i64 base) := by simp [go_sem]
  have bx1_1 : ((((w.alloc (.cells #[.slice A' n' c'] 39)).alloc (.cells #[.int .i64 base, .int .i64 size, .int .i64 head, .int .i64 tail] 69)).alloc (.cells #[.slice none 0 0] 39)).alloc (.cells #[.int .i64 0, .int .i64 0, .int .i64 0, .int .i64 0] 69)).cell? ⟨w.heap.size + 1, 1, none⟩ = some (.int .i64 size) := by simp [go_sem]
  have bx1_2 : ((((w.alloc (.cells #[.slice A' n' c'] 39)).alloc (.cells #[.int .i64 base, .int .i64 size, .int .i64 head, .int .i64 tail] 69)).alloc (.cells #[.slice none 0 0] 39)).alloc (.cells #[.int .i64 0, .int .i64 0, .int .i64 0, .int .i64 0] 69)).cell? ⟨w.heap.size + 1, 2, none⟩ = some (.int .i64 head) := by simp [go_sem]
  have bx1_3 : ((((w.alloc (.cells #[.slice A' n' c'] 39)).alloc (.cells #[.int .i64 base, .int .i64 size, .int .i64 head, .int .i64 tail] 69)).alloc (.cells #[.slice none 0 0] 39)).alloc (.cells #[.int .i64 0, .int .i64 0, .int .i64 0, .int .i64 0] 69)).cell? ⟨w.heap.size + 1, 3, none⟩ = some (.int .i64 tail) := by simp [go_sem]
  have bl1 : w.heap.size + 1 < ((((w.alloc (.cells #[.slice A' n' c'] 39)).alloc (.cells #[.int .i64 base, .int .i64 size, .int .i64 head, .int .i64 tail] 69)).alloc (.cells #[.slice none 0 0] 39)).alloc (.cells #[.int .i64 0, .int .i64 0, .int .i64 0, .int .i64 0] 69)).heap.size := by go_size
  have hk1 : Blk ((((w.alloc (.cells #[.slice A' n' c'] 39)).alloc (.cells #[.int .i64 base, .int .i64 size, .int .i64 head, .int .i64 tail] 69)).alloc (.cells #[.slice none 0 0] 39)).alloc (.cells #[.int .i64 0, .int .i64 0, .int .i64 0, .int .i64 0] 69)) (w.heap.size + 1) 69 [.int .i64 base, .int .i64 size, .int .i64 head, .int .i64 tail] := by simpa using ((Blk.new (w.alloc (.cells #[.slice A' n' c'] 39)) 69 [.int .i64 base, .int .i64 size, .int .i64 head, .int .i64 tail]).alloc (.cells #[.slice none 0 0] 39)).alloc (.cells #[.int .i64 0, .int .i64 0, .int .i64 0, .int .i64 0] 69)
  have bx2_0 : ((((w.alloc (.cells #[.slice A' n' c'] 39)).alloc (.cells #[.int .i64 base, .int .i64 size, .int .i64 head, .int .i64 tail] 69)).alloc (.cells #[.slice none 0 0] 39)).alloc (.cells #[.int .i64 0, .int .i64 0, .int .i64 0, .int .i64 0] 69)).cell? ⟨w.heap.size + 1 + 1, 0, none⟩ = some (.slice none 0 0) := by simp [go_sem]
  have bl2 : w.heap.size + 1 + 1 < ((((w.alloc (.cells #[.slice A' n' c'] 39)).alloc (.cells #[.int .i64 base, .int .i64 size, .int .i64 head, .int .i64 tail] 69)).alloc (.cells #[.slice none 0 0] 39)).alloc (.cells #[.int .i64 0, .int .i64 0, .int .i64 0, .int .i64 0] 69)).heap.size := by go_size
  have hk2 : Blk ((((w.alloc (.cells #[.slice A' n' c'] 39)).alloc (.cells #[.int .i64 base, .int .i64 size, .int .i64 head, .int .i64 tail] 69)).alloc (.cells #[.slice none 0 0] 39)).alloc (.cells #[.int .i64 0, .int .i64 0, .int .i64 0, .int .i64 0] 69)) (w.heap.size + 1 + 1) 39 [.slice none 0 0] := by simpa using (Blk.new ((w.alloc (.cells #[.slice A' n' c'] 39)).alloc (.cells #[.int .i64 base, .int .i64 size, .int .i64 head, .int .i64 tail] 69)) 39 [.slice none 0 0]).alloc (.cells #[.int .i64 0, .int .i64 0, .int .i64 0, .int .i64 0] 69)
  have bx3_0 : ((((w.alloc (.cells #[.slice A' n' c'] 39)).alloc (.cells #[.int .i64 base, .int .i64 size, .int .i64 head, .int .i64 tail] 69)).alloc (.cells #[.slice none 0 0] 39)).alloc (.cells #[.int .i64 0, .int .i64 0, .int .i64 0, .int .i64 0] 69)).cell? ⟨w.heap.size + 1 + 1 + 1, 0, none⟩ = some (.int .i64 0) := by simp [go_sem]
  have bx3_1 : ((((w.alloc (.cells #[.slice A' n' c'] 39)).alloc (.cells #[.int .i64 base, .int .i64 size, .int .i64 head, .int .i64 tail] 69)).alloc (.cells #[.slice none 0 0] 39)).alloc (.cells #[.int .i64 0, .int .i64 0, .int .i64 0, .int .i64 0] 69)).cell? ⟨w.heap.size + 1 + 1 + 1, 1, none⟩ = some (.int .i64 0) := by simp [go_sem]
  have bx3_2 : ((((w.alloc (.cells #[.slice A' n' c'] 39)).alloc (.cells #[.int .i64 base, .int .i64 size, .int .i64 head, .int .i64 tail] 69)).alloc (.cells #[.slice none 0 0] 39)).alloc (.cells #[.int .i64 0, .int .i64 0, .int .i64 0, .int .i64 0] 69)).cell? ⟨w.heap.size + 1 + 1 + 1, 2, none⟩ = some (.int .i64 0) := by simp [go_sem]
  have bx3_3 : ((((w.alloc (.cells #[.slice A' n' c'] 39)).alloc (.cells #[.int .i64 base, .int .i64 size, .int .i64 head, .int .i64 tail] 69)).alloc (.cells #[.slice none 0 0] 39)).alloc (.cells #[.int .i64 0, .int .i64 0, .int .i64 0, .int .i64 0] 69)).cell? ⟨w.heap.size + 1 + 1 + 1, 3, none⟩ = some (.int .i64 0) := by simp [go_sem]
  have bl3 : w.heap.size + 1 + 1 + 1 < ((((w.alloc (.cells #[.slice A' n' c'] 39)).alloc (.cells #[.int .i64 base, .int .i64 size, .int .i64 head, .int .i64 tail] 69)).alloc (.cells #[.slice none 0 0] 39)).alloc (.cells #[.int .i64 0, .int .i64 0, .int .i64 0, .int .i64 0] 69)).heap.size := by go_size
  have hk3 : Blk ((((w.alloc (.cells #[.slice A' n' c'] 39)).alloc (.cells #[.int .i64 base, .int .i64 size, .int .i64 head, .int .i64 tail] 69)).alloc (.cells #[.slice none 0 0] 39)).alloc (.cells #[.int .i64 0, .int .i64 0, .int .i64 0, .int .i64 0] 69)) (w.heap.size + 1 + 1 + 1) 69 [.int .i64 0, .int .i64 0, .int .i64 0, .int .i64 0] := by simpa using Blk.new (((w.alloc (.cells #[.slice A' n' c'] 39)).alloc (.cells #[.int .i64 base, .int .i64 size, .int .i64 head, .int .i64 tail] 69)).alloc (.cells #[.slice none 0 0] 39)) 69 [.int .i64 0, .int .i64 0, .int .i64 0, .int .i64 0]
  have r_a := r_a.below k0
  have r_b := r_b.below k0
  have p0 := k0.size
  generalize hW0 : ((((w.alloc (.cells #[.slice A' n' c'] 39)).alloc (.cells #[.int .i64 base, .int .i64 size, .int .i64 head, .int .i64 tail] 69)).alloc (.cells #[.slice none 0 0] 39)).alloc (.cells #[.int .i64 0, .int .i64 0, .int .i64 0, .int .i64 0] 69)) = w0 at *
  clear hW0
  have bx0_0 : w0.cell? ⟨w.heap.size, 0, none⟩ = some (.slice A' n' c') := (hk0.cell 0).trans rfl
  have fz0_0 := hk0.frozen 0
  have bx1_0 : w0.cell? ⟨w.heap.size + 1, 0, none⟩ = some (.int .i64 base) := (hk1.cell 0).trans rfl
  have fz1_0 := hk1.frozen 0
  have bx1_1 : w0.cell? ⟨w.heap.size + 1, 1, none⟩ = some (.int .i64 size) := (hk1.cell 1).trans rfl
  have fz1_1 := hk1.frozen 1
  have bx1_2 : w0.cell? ⟨w.heap.size + 1, 2, none⟩ = some (.int .i64 head) := (hk1.cell 2).trans rfl
  have fz1_2 := hk1.frozen 2
  have bx1_3 : w0.cell? ⟨w.heap.size + 1, 3, none⟩ = some (.int .i64 tail) := (hk1.cell 3).trans rfl
  have fz1_3 := hk1.frozen 3
  have bx2_0 : w0.cell? ⟨w.heap.size + 1 + 1, 0, none⟩ = some (.slice none 0 0) := (hk2.cell 0).trans rfl
  have fz2_0 := hk2.frozen 0
  have bx3_0 : w0.cell? ⟨w.heap.size + 1 + 1 + 1, 0, none⟩ = some (.int .i64 0) := (hk3.cell 0).trans rfl
  have fz3_0 := hk3.frozen 0
  have bx3_1 : w0.cell? ⟨w.heap.size + 1 + 1 + 1, 1, none⟩ = some (.int .i64 0) := (hk3.cell 1).trans rfl
  have fz3_1 := hk3.frozen 1
  have bx3_2 : w0.cell? ⟨w.heap.size + 1 + 1 + 1, 2, none⟩ = some (.int .i64 0) := (hk3.cell 2).trans rfl
  have fz3_2 := hk3.frozen 2
  have bx3_3 : w0.cell? ⟨w.heap.size + 1 + 1 + 1, 3, none⟩ = some (.int .i64 0) := (hk3.cell 3).trans rfl
  have fz3_3 := hk3.frozen 3
  refine (specRingFree_c _ _ _ _ _ hh ht).mono ?_
  rintro e w1 ⟨rfl, hb⟩
  have k1 : Below w.heap.size w w1 := ext_step k0 (by omega) hb
  have p1 := hb.size
  have hk0 := hk0.ext hb
  have hk1 := hk1.ext hb
  have hk2 := hk2.ext hb
  have hk3 := hk3.ext hb
  have bx0_0 : w1.cell? ⟨w.heap.size, 0, none⟩ = some (.slice A' n' c') := (hk0.cell 0).trans rfl
  have fz0_0 := hk0.frozen 0
  have bx1_0 : w1.cell? ⟨w.heap.size + 1, 0, none⟩ = some (.int .i64 base) := (hk1.cell 0).trans rfl
  have fz1_0 := hk1.frozen 0
  have bx1_1 : w1.cell? ⟨w.heap.size + 1, 1, none⟩ = some (.int .i64 size) := (hk1.cell 1).trans rfl
  have fz1_1 := hk1.frozen 1
  have bx1_2 : w1.cell? ⟨w.heap.size + 1, 2, none⟩ = some (.int .i64 head) := (hk1.cell 2).trans rfl
  have fz1_2 := hk1.frozen 2
  have bx1_3 : w1.cell? ⟨w.heap.size + 1, 3, none⟩ = some (.int .i64 tail) := (hk1.cell 3).trans rfl
  have fz1_3 := hk1.frozen 3
  have bx2_0 : w1.cell? ⟨w.heap.size + 1 + 1, 0, none⟩ = some (.slice none 0 0) := (hk2.cell 0).trans rfl
  have fz2_0 := hk2.frozen 0
  have bx3_0 : w1.cell? ⟨w.heap.size + 1 + 1 + 1, 0, none⟩ = some (.int .i64 0) := (hk3.cell 0).trans rfl
  have fz3_0 := hk3.frozen 0
  have bx3_1 : w1.cell? ⟨w.heap.size + 1 + 1 + 1, 1, none⟩ = some (.int .i64 0) := (hk3.cell 1).trans rfl
  have fz3_1 := hk3.frozen 1
  have bx3_2 : w1.cell? ⟨w.heap.size + 1 + 1 + 1, 2, none⟩ = some (.int .i64 0) := (hk3.cell 2).trans rfl
  have fz3_2 := hk3.frozen 2
  have bx3_3 : w1.cell? ⟨w.heap.size + 1 + 1 + 1, 3, none⟩ = some (.int .i64 0) := (hk3.cell 3).trans rfl
  have fz3_3 := hk3.frozen 3
  have bl0 := Nat.lt_of_lt_of_le bl0 hb.size
  have bl1 := Nat.lt_of_lt_of_le bl1 hb.size
  have bl2 := Nat.lt_of_lt_of_le bl2 hb.size
  have bl3 := Nat.lt_of_lt_of_le bl3 hb.size
  have r_a := r_a.below (hb.mono (by omega))
  have r_b := r_b.below (hb.mono (by omega))
  clear hb
  go_wp2_with fail
  refine wp_region_slotsS (w.heap.size) [(23, fun _ v => v = .agg #[.slice A' n' c']), (24, RowP w1.heap.size 9 1 n' (pg.flatMap fun x : ByteArray => [Value.string x]) (fun A c => .agg #[.slice A n' c])), (25, fun _ v => v = .agg #[.int .i64 base, .int .i64 size, .int .i64 head, .int .i64 tail]), (12, fun _ v => v = .bool false)] [⟨3, 24, fun u => Blk u (w.heap.size + 1 + 1) 39 [.slice none 0 0], StaR w1.heap.size (w.heap.size + 1 + 1) 39 9 1 n' (pg.flatMap fun x : ByteArray => [Value.string x]) (fun A c => .agg #[.slice A n' c]) (fun A c => [.slice A n' c])⟩, ⟨4, 25, fun u => Blk u (w.heap.size + 1 + 1 + 1) 69 [.int .i64 0, .int .i64 0, .int .i64 0, .int .i64 0], fun u _ => Blk u (w.heap.size + 1 + 1 + 1) 69 [.int .i64 base, .int .i64 size, .int .i64 head, .int .i64 tail]⟩] (fun u => Blk u (w.heap.size) 39 [.slice A' n' c'] ∧ Blk u (w.heap.size + 1) 69 [.int .i64 base, .int .i64 size, .int .i64 head, .int .i64 tail]) (by kernel_rfl) (by omega) (by kernel_rfl) (by kernel_rfl) (by kernel_rfl) (by kernel_rfl) ?_ ?_ ?_ ?_ ?_ ?_ ?_
  · intro p hp
    simp only [List.mem_cons, List.not_mem_nil, or_false] at hp
    rcases hp with rfl | rfl | rfl | rfl
    all_goals (intro u u' v hb hv; first | exact hv | exact BoxP.keep hv hb | exact RowP.keep hv hb)
  · intro s hs u u' hb
    simp only [List.mem_cons, List.not_mem_nil, or_false] at hs
    rcases hs with rfl | rfl
    all_goals (refine ⟨fun h => ?_, fun _ h => ?_⟩ <;> first | exact h | exact StoP.keep h hb | exact StoR.keep h hb | exact Blk.ext h hb | exact StaR.keep h hb)
  · intro s hs
    simp only [List.mem_cons, List.not_mem_nil, or_false] at hs
    rcases hs with rfl | rfl
    all_goals first | trivial | exact hk2 | exact hk3
  · exact ⟨hk0, hk1⟩
  · intro u u' hb hj
    obtain ⟨j0, j1⟩ := hj
    exact ⟨(j0.ext hb), (j1.ext hb)⟩
  · intro hGk hSk hJk
    refine allStep_cons (stepS_plain hGk hSk (by omega) hJk (by kernel_rfl) rfl ?_) ?_
    · intro a u hb hz hj hl hp K Q hK
      have e6 : a.tmps[6]?.getD undef = .pointer (some ⟨w.heap.size, 0, none⟩) := gd (hl 6 (by kernel_rfl))
      obtain ⟨j0, j1⟩ := hj
      have hBb := j0
      have gb0 : u.cell? ⟨w.heap.size, 0, none⟩ = some (.slice A' n' c') := (hBb.cell 0).trans rfl
      go_simp
      exact hK _ _ (Below.refl _ _) (by intro d hd; cases hd; exact rfl)
    refine allStep_cons (stepS_plain hGk hSk (by omega) hJk (by kernel_rfl) rfl ?_) ?_
    · intro a u hb hz hj hl hp K Q hK
      have e23 : a.tmps[23]?.getD undef = .agg #[.slice A' n' c'] := gd (hl 23 (by kernel_rfl))
      go_simp
      refine (l16Copy_c _ _ _ pg _ hn_b (by omega) ((r_b.below (hb.mono (by omega))).more (by omega))).mono ?_
      rintro e u1 ⟨A_q, c_q, rfl, o_q, hb1⟩
      exact hK _ _ hb1 (by intro d hd; cases hd; exact ⟨A_q, c_q, rfl, own_base o_q (by omega)⟩)
    refine allStep_cons (stepS_plain hGk hSk (by omega) hJk (by kernel_rfl) rfl ?_) ?_
    · intro a u hb hz hj hl hp K Q hK
      have e8 : a.tmps[8]?.getD undef = .pointer (some ⟨w.heap.size + 1, 0, none⟩) := gd (hl 8 (by kernel_rfl))
      obtain ⟨j0, j1⟩ := hj
      have hBb := j1
      have gb0 : u.cell? ⟨w.heap.size + 1, 0, none⟩ = some (.int .i64 base) := (hBb.cell 0).trans rfl
      have gb1 : u.cell? ⟨w.heap.size + 1, 1, none⟩ = some (.int .i64 size) := (hBb.cell 1).trans rfl
      have gb2 : u.cell? ⟨w.heap.size + 1, 2, none⟩ = some (.int .i64 head) := (hBb.cell 2).trans rfl
      have gb3 : u.cell? ⟨w.heap.size + 1, 3, none⟩ = some (.int .i64 tail) := (hBb.cell 3).trans rfl
      go_simp
      exact hK _ _ (Below.refl _ _) (by intro d hd; cases hd; exact rfl)
    refine allStep_cons (stepS_store (ChgA (w.heap.size + 1 + 1)) (fun _ _ hc hb => hc.below (by omega) hb) (fun _ _ hc => hc.size) (hold_rel ?_) ?_ ?_ rfl rfl ?_) ?_
    · intro p hp
      simp only [List.mem_cons, List.not_mem_nil, or_false] at hp
      rcases hp with rfl | rfl | rfl | rfl
      all_goals (intro u u' v hb hv; first | exact hv | exact BoxP.chgA hv hb (by omega) | exact RowP.chgA hv hb (by omega))
    · intro s hs hne u u' hb
      simp only [List.mem_cons, List.not_mem_nil, or_false] at hs
      rcases hs with rfl | rfl
      all_goals first | exact absurd (by rfl) hne | (refine ⟨fun h => ?_, fun _ h => ?_⟩ <;> first | exact h | exact Blk.chgA h hb (by omega) | exact StoP.chgA h hb (by omega) | exact StoR.chgA h hb (by omega) | exact StaR.chgA h hb (by omega) (by omega))
    · intro u u' hb hj
      obtain ⟨j0, j1⟩ := hj
      exact ⟨(j0.chgA hb (by omega)), (j1.chgA hb (by omega))⟩
    · intro a u hb hz hj hl hp K Q hK
      have e10 : a.tmps[10]?.getD undef = .pointer (some ⟨w.heap.size + 1 + 1, 0, none⟩) := gd (hl 10 (by kernel_rfl))
      have hBs : Blk u (w.heap.size + 1 + 1) 39 [.slice none 0 0] := hp _ (List.mem_of_getElem? (i := 0) rfl) (by kernel_rfl)
      have gs0 : u.cell? ⟨w.heap.size + 1 + 1, 0, none⟩ = some (.slice none 0 0) := (hBs.cell 0).trans rfl
      have f0 := hBs.frozen 0
      obtain ⟨A2, c2, ex24, o2⟩ : RowP w1.heap.size 9 1 n' (pg.flatMap fun x : ByteArray => [Value.string x]) (fun A c => .agg #[.slice A n' c]) u (a.tmps.getD 24 undef) := hl 24 (by kernel_rfl)
      have e24 := gd ex24
      go_simp
      refine hK undef _ ((ChgA.refl _ _).set 0 _) (fun s hs he => ?_)
      simp only [List.mem_cons, List.not_mem_nil, or_false] at hs
      rcases hs with rfl | rfl
      · exact ⟨A2, c2, ex24, (hBs.set_ 0 _), own_chgA o2 ((ChgA.refl _ _).set 0 _) (fun k hk => by have := (o2.lt k hk).1; omega)⟩
      · exact absurd (show (4 : Nat) = 3 from he) (by decide)
    refine allStep_cons (stepS_store (ChgA (w.heap.size + 1 + 1 + 1)) (fun _ _ hc hb => hc.below (by omega) hb) (fun _ _ hc => hc.size) (hold_rel ?_) ?_ ?_ rfl rfl ?_) ?_
    · intro p hp
      simp only [List.mem_cons, List.not_mem_nil, or_false] at hp
      rcases hp with rfl | rfl | rfl | rfl
      all_goals (intro u u' v hb hv; first | exact hv | exact BoxP.chgA hv hb (by omega) | exact RowP.chgA hv hb (by omega))
    · intro s hs hne u u' hb
      simp only [List.mem_cons, List.not_mem_nil, or_false] at hs
      rcases hs with rfl | rfl
      all_goals first | exact absurd (by rfl) hne | (refine ⟨fun h => ?_, fun _ h => ?_⟩ <;> first | exact h | exact Blk.chgA h hb (by omega) | exact StoP.chgA h hb (by omega) | exact StoR.chgA h hb (by omega) | exact StaR.chgA h hb (by omega) (by omega))
    · intro u u' hb hj
      obtain ⟨j0, j1⟩ := hj
      exact ⟨(j0.chgA hb (by omega)), (j1.chgA hb (by omega))⟩
    · intro a u hb hz hj hl hp K Q hK
      have e11 : a.tmps[11]?.getD undef = .pointer (some ⟨w.heap.size + 1 + 1 + 1, 0, none⟩) := gd (hl 11 (by kernel_rfl))
      have hBs : Blk u (w.heap.size + 1 + 1 + 1) 69 [.int .i64 0, .int .i64 0, .int .i64 0, .int .i64 0] := hp _ (List.mem_of_getElem? (i := 1) rfl) (by kernel_rfl)
      have gs0 : u.cell? ⟨w.heap.size + 1 + 1 + 1, 0, none⟩ = some (.int .i64 0) := (hBs.cell 0).trans rfl
      have gs1 : u.cell? ⟨w.heap.size + 1 + 1 + 1, 1, none⟩ = some (.int .i64 0) := (hBs.cell 1).trans rfl
      have gs2 : u.cell? ⟨w.heap.size + 1 + 1 + 1, 2, none⟩ = some (.int .i64 0) := (hBs.cell 2).trans rfl
      have gs3 : u.cell? ⟨w.heap.size + 1 + 1 + 1, 3, none⟩ = some (.int .i64 0) := (hBs.cell 3).trans rfl
      have f0 := hBs.frozen 0
      have f1 := hBs.frozen 1
      have f2 := hBs.frozen 2
      have f3 := hBs.frozen 3
      have e25 : a.tmps[25]?.getD undef = .agg #[.int .i64 base, .int .i64 size, .int .i64 head, .int .i64 tail] := gd (hl 25 (by kernel_rfl))
      go_simp
      refine hK undef _ (((((ChgA.refl _ _).set 0 _).set 1 _).set 2 _).set 3 _) (fun s hs he => ?_)
      simp only [List.mem_cons, List.not_mem_nil, or_false] at hs
      rcases hs with rfl | rfl
      · exact absurd (show (3 : Nat) = 4 from he) (by decide)
      · exact ((((hBs.set_ 0 _).set_ 1 _).set_ 2 _).set_ 3 _)
    refine allStep_cons (stepS_plain hGk hSk (by omega) hJk (by kernel_rfl) rfl ?_) ?_
    · intro a u hb hz hj hl hp K Q hK
      go_simp
      exact hK _ _ (Below.refl _ _) (by intro d hd; cases hd; exact rfl)
    exact allStep_nil
  intro x w2 hb hz hj hL hSt
  obtain ⟨hk0, hk1⟩ := hj
  have fx12 : x 12 = .bool false := hL _ (List.mem_of_getElem? (i := 3) rfl)
  obtain ⟨A_q, c_q, fy, hk2, o_q⟩ : StaR w1.heap.size (w.heap.size + 1 + 1) 39 9 1 n' (pg.flatMap fun x : ByteArray => [Value.string x]) (fun A c => .agg #[.slice A n' c]) (fun A c => [.slice A n' c]) w2 (x 24) := hSt _ (List.mem_of_getElem? (i := 0) rfl)
  clear fy
  have hk3 : Blk w2 (w.heap.size + 1 + 1 + 1) 69 [.int .i64 base, .int .i64 size, .int .i64 head, .int .i64 tail] := hSt _ (List.mem_of_getElem? (i := 1) rfl)
  simp only [List.map, putAll, fx12]
  have k2 : Below w.heap.size w w2 := k1.trans hb
  have p2 : w1.heap.size ≤ w2.heap.size := hb.size
  have bl0 := Nat.lt_of_lt_of_le bl0 hb.size
  have bl1 := Nat.lt_of_lt_of_le bl1 hb.size
  have bl2 := Nat.lt_of_lt_of_le bl2 hb.size
  have bl3 := Nat.lt_of_lt_of_le bl3 hb.size
  have r_a := r_a.below hb
  have r_b := r_b.below hb
  have r_q := Reads.of_own o_q
  have u_q := fun k hk => (o_q.lt k hk).2
  have bx0_0 : w2.cell? ⟨w.heap.size, 0, none⟩ = some (.slice A' n' c') := (hk0.cell 0).trans rfl
  have fz0_0 := hk0.frozen 0
  have bx1_0 : w2.cell? ⟨w.heap.size + 1, 0, none⟩ = some (.int .i64 base) := (hk1.cell 0).trans rfl
  have fz1_0 := hk1.frozen 0
  have bx1_1 : w2.cell? ⟨w.heap.size + 1, 1, none⟩ = some (.int .i64 size) := (hk1.cell 1).trans rfl
  have fz1_1 := hk1.frozen 1
  have bx1_2 : w2.cell? ⟨w.heap.size + 1, 2, none⟩ = some (.int .i64 head) := (hk1.cell 2).trans rfl
  have fz1_2 := hk1.frozen 2
  have bx1_3 : w2.cell? ⟨w.heap.size + 1, 3, none⟩ = some (.int .i64 tail) := (hk1.cell 3).trans rfl
  have fz1_3 := hk1.frozen 3
  have bx2_0 : w2.cell? ⟨w.heap.size + 1 + 1, 0, none⟩ = some (.slice A_q n' c_q) := (hk2.cell 0).trans rfl
  have fz2_0 := hk2.frozen 0
  have bx3_0 : w2.cell? ⟨w.heap.size + 1 + 1 + 1, 0, none⟩ = some (.int .i64 base) := (hk3.cell 0).trans rfl
  have fz3_0 := hk3.frozen 0
  have bx3_1 : w2.cell? ⟨w.heap.size + 1 + 1 + 1, 1, none⟩ = some (.int .i64 size) := (hk3.cell 1).trans rfl
  have fz3_1 := hk3.frozen 1
  have bx3_2 : w2.cell? ⟨w.heap.size + 1 + 1 + 1, 2, none⟩ = some (.int .i64 head) := (hk3.cell 2).trans rfl
  have fz3_2 := hk3.frozen 2
  have bx3_3 : w2.cell? ⟨w.heap.size + 1 + 1 + 1, 3, none⟩ = some (.int .i64 tail) := (hk3.cell 3).trans rfl
  have fz3_3 := hk3.frozen 3
  clear hL hSt hb hz fx12
  all_goals
    go_wp2
    refine bodyPost_ret (v := .tuple #[.agg #[.slice A_q n' c_q], .agg #[.int .i64 base, .int .i64 size, .int .i64 head, .int .i64 tail], .bool false]) (by simp [results, Try.results52, go_sem, bx2_0, bx3_0, bx3_1, bx3_2, bx3_3]) rfl ?_
    exact ⟨A_q, c_q, rfl, own_base o_q (by omega), k2⟩
set_option maxRecDepth 100000 in
set_option maxHeartbeats 2000000 in
theorem specRingPut_3 (A A' : Option Addr) (n c n' c' : Nat) (l : List Mapping) (pg : List ByteArray) (w : World) (hn_a : l.length = n) (hn_b : pg.length = n') (hs_a : n ≤ 1048576) (hs_b : n' ≤ 1048576) (r_a : Reads w w.heap.size 4 A n (l.flatMap Mapping.cells)) (r_b : Reads w w.heap.size 1 A' n' (pg.flatMap fun x : ByteArray => [Value.string x])) (d base size head tail : Int) (s : ByteArray) (hh : I64 head) (ht : I64 tail) (hsz : s.size ≤ 1048576) (hf2 : (freeI base size head tail == 0) = false) (h17 : ((s.size : Int) == 16) = true) (h18 : ((s.size : Int) != 16) = false) (hok : ringB base size head tail = true) (hd : dmaOk l pg d (slotI base size head tail tail) s.size true = false) :
    Calls Try.prog 52 #[.slice A n c, .agg #[.slice A' n' c'], .int .i64 d, .agg #[.int .i64 base, .int .i64 size, .int .i64 head, .int .i64 tail], .string s] w fun e w' => ∃ A2 c2, e = .returned (.tuple #[.agg #[.slice A2 n' c2], .agg #[.int .i64 base, .int .i64 size, .int .i64 head, .int .i64 tail], .bool false]) ∧ w'.ownsRow w.heap.size 9 1 (.slice A2 n' c2) n' (pg.flatMap fun x : ByteArray => [Value.string x]) ∧ Below w.heap.size w w' := by
  obtain ⟨b1, b2, b3, b4, b5, b6, b7, b8, b9⟩ := ringB_size hok
  have hp : (2 * size == 0) = false := by simp; omega
  have hsb := slotI_bd2 hok b7 (by omega)
  have hI1 : I64 (slotI base size head tail tail) := ⟨by omega, by omega⟩
  have m1 := Int.emod_nonneg (tail + 1) (show 2 * size ≠ 0 by omega)
  have m2 := Int.emod_lt_of_pos (tail + 1) (show 0 < 2 * size by omega)
  have HD := Lib.hid hd
  clear hsb hok
  have HW := Lib.hid (show dmaW l pg d (slotI base size head tail tail) s true = pg by rw [dmaW, runsD_nok hd]; rfl)
  clear hd
  go_enter Try.func52, Try.ntmps52
  go_wp2_with fail
  have k0 : Below w.heap.size w ((((w.alloc (.cells #[.slice A' n' c'] 39)).alloc (.cells #[.int .i64 base, .int .i64 size, .int .i64 head, .int .i64 tail] 69)).alloc (.cells #[.slice none 0 0] 39)).alloc (.cells #[.int .i64 0, .int .i64 0, .int .i64 0, .int .i64 0] 69)) := by go_grown
  have bx0_0 : ((((w.alloc (.cells #[.slice A' n' c'] 39)).alloc (.cells #[.int .i64 base, .int .i64 size, .int .i64 head, .int .i64 tail] 69)).alloc (.cells #[.slice none 0 0] 39)).alloc (.cells #[.int .i64 0, .int .i64 0, .int .i64 0, .int .i64 0] 69)).cell? ⟨w.heap.size, 0, none⟩ = some (.slice A' n' c') := by simp [go_sem]
  have bl0 : w.heap.size < ((((w.alloc (.cells #[.slice A' n' c'] 39)).alloc (.cells #[.int .i64 base, .int .i64 size, .int .i64 head, .int .i64 tail] 69)).alloc (.cells #[.slice none 0 0] 39)).alloc (.cells #[.int .i64 0, .int .i64 0, .int .i64 0, .int .i64 0] 69)).heap.size := by go_size
  have hk0 : Blk ((((w.alloc (.cells #[.slice A' n' c'] 39)).alloc (.cells #[.int .i64 base, .int .i64 size, .int .i64 head, .int .i64 tail] 69)).alloc (.cells #[.slice none 0 0] 39)).alloc (.cells #[.int .i64 0, .int .i64 0, .int .i64 0, .int .i64 0] 69)) (w.heap.size) 39 [.slice A' n' c'] := by simpa using (((Blk.new w 39 [.slice A' n' c']).alloc (.cells #[.int .i64 base, .int .i64 size, .int .i64 head, .int .i64 tail] 69)).alloc (.cells #[.slice none 0 0] 39)).alloc (.cells #[.int .i64 0, .int .i64 0, .int .i64 0, .int .i64 0] 69)
  have bx1_0 : ((((w.alloc (.cells #[.slice A' n' c'] 39)).alloc (.cells #[.int .i64 base, .int .i64 size, .int .i64 head, .int .i64 tail] 69)).alloc (.cells #[.slice none 0 0] 39)).alloc (.cells #[.int .i64 0, .int .i64 0, .int .i64 0, .int .i64 0] 69)).cell? ⟨w.heap.size + 1, 0, none⟩ = some (.int .i64 base) := by simp [go_sem]
  have bx1_1 : ((((w.alloc (.cells #[.slice A' n' c'] 39)).alloc (.cells #[.int .i64 base, .int .i64 size, .int .i64 head, .int .i64 tail] 69)).alloc (.cells #[.slice none 0 0] 39)).alloc (.cells #[.int .i64 0, .int .i64 0, .int .i64 0, .int .i64 0] 69)).cell? ⟨w.heap.size + 1, 1, none⟩ = some (.int .i64 size) := by simp [go_sem]
  have bx1_2 : ((((w.alloc (.cells #[.slice A' n' c'] 39)).alloc (.cells #[.int .i64 base, .int .i64 size, .int .i64 head, .int .i64 tail] 69)).alloc (.cells #[.slice none 0 0] 39)).alloc (.cells #[.int .i64 0, .int .i64 0, .int .i64 0, .int .i64 0] 69)).cell? ⟨w.heap.size + 1, 2, none⟩ = some (.int .i64 head) := by simp [go_sem]
  have bx1_3 : ((((w.alloc (.cells #[.slice A' n' c'] 39)).alloc (.cells #[.int .i64 base, .int .i64 size, .int .i64 head, .int .i64 tail] 69)).alloc (.cells #[.slice none 0 0] 39)).alloc (.cells #[.int .i64 0, .int .i64 0, .int .i64 0, .int .i64 0] 69)).cell? ⟨w.heap.size + 1, 3, none⟩ = some (.int .i64 tail) := by simp [go_sem]
  have bl1 : w.heap.size + 1 < ((((w.alloc (.cells #[.slice A' n' c'] 39)).alloc (.cells #[.int .i64 base, .int .i64 size, .int .i64 head, .int .i64 tail] 69)).alloc (.cells #[.slice none 0 0] 39)).alloc (.cells #[.int .i64 0, .int .i64 0, .int .i64 0, .int .i64 0] 69)).heap.size := by go_size
  have hk1 : Blk ((((w.alloc (.cells #[.slice A' n' c'] 39)).alloc (.cells #[.int .i64 base, .int .i64 size, .int .i64 head, .int .i64 tail] 69)).alloc (.cells #[.slice none 0 0] 39)).alloc (.cells #[.int .i64 0, .int .i64 0, .int .i64 0, .int .i64 0] 69)) (w.heap.size + 1) 69 [.int .i64 base, .int .i64 size, .int .i64 head, .int .i64 tail] := by simpa using ((Blk.new (w.alloc (.cells #[.slice A' n' c'] 39)) 69 [.int .i64 base, .int .i64 size, .int .i64 head, .int .i64 tail]).alloc (.cells #[.slice none 0 0] 39)).alloc (.cells #[.int .i64 0, .int .i64 0, .int .i64 0, .int .i64 0] 69)
  have bx2_0 : ((((w.alloc (.cells #[.slice A' n' c'] 39)).alloc (.cells #[.int .i64 base, .int .i64 size, .int .i64 head, .int .i64 tail] 69)).alloc (.cells #[.slice none 0 0] 39)).alloc (.cells #[.int .i64 0, .int .i64 0, .int .i64 0, .int .i64 0] 69)).cell? ⟨w.heap.size + 1 + 1, 0, none⟩ = some (.slice none 0 0) := by simp [go_sem]
  have bl2 : w.heap.size + 1 + 1 < ((((w.alloc (.cells #[.slice A' n' c'] 39)).alloc (.cells #[.int .i64 base, .int .i64 size, .int .i64 head, .int .i64 tail] 69)).alloc (.cells #[.slice none 0 0] 39)).alloc (.cells #[.int .i64 0, .int .i64 0, .int .i64 0, .int .i64 0] 69)).heap.size := by go_size
  have hk2 : Blk ((((w.alloc (.cells #[.slice A' n' c'] 39)).alloc (.cells #[.int .i64 base, .int .i64 size, .int .i64 head, .int .i64 tail] 69)).alloc (.cells #[.slice none 0 0] 39)).alloc (.cells #[.int .i64 0, .int .i64 0, .int .i64 0, .int .i64 0] 69)) (w.heap.size + 1 + 1) 39 [.slice none 0 0] := by simpa using (Blk.new ((w.alloc (.cells #[.slice A' n' c'] 39)).alloc (.cells #[.int .i64 base, .int .i64 size, .int .i64 head, .int .i64 tail] 69)) 39 [.slice none 0 0]).alloc (.cells #[.int .i64 0, .int .i64 0, .int .i64 0, .int .i64 0] 69)
  have bx3_0 : ((((w.alloc (.cells #[.slice A' n' c'] 39)).alloc (.cells #[.int .i64 base, .int .i64 size, .int .i64 head, .int .i64 tail] 69)).alloc (.cells #[.slice none 0 0] 39)).alloc (.cells #[.int .i64 0, .int .i64 0, .int .i64 0, .int .i64 0] 69)).cell? ⟨w.heap.size + 1 + 1 + 1, 0, none⟩ = some (.int .i64 0) := by simp [go_sem]
  have bx3_1 : ((((w.alloc (.cells #[.slice A' n' c'] 39)).alloc (.cells #[.int .i64 base, .int .i64 size, .int .i64 head, .int .i64 tail] 69)).alloc (.cells #[.slice none 0 0] 39)).alloc (.cells #[.int .i64 0, .int .i64 0, .int .i64 0, .int .i64 0] 69)).cell? ⟨w.heap.size + 1 + 1 + 1, 1, none⟩ = some (.int .i64 0) := by simp [go_sem]
  have bx3_2 : ((((w.alloc (.cells #[.slice A' n' c'] 39)).alloc (.cells #[.int .i64 base, .int .i64 size, .int .i64 head, .int .i64 tail] 69)).alloc (.cells #[.slice none 0 0] 39)).alloc (.cells #[.int .i64 0, .int .i64 0, .int .i64 0, .int .i64 0] 69)).cell? ⟨w.heap.size + 1 + 1 + 1, 2, none⟩ = some (.int .i64 0) := by simp [go_sem]
  have bx3_3 : ((((w.alloc (.cells #[.slice A' n' c'] 39)).alloc (.cells #[.int .i64 base, .int .i64 size, .int .i64 head, .int .i64 tail] 69)).alloc (.cells #[.slice none 0 0] 39)).alloc (.cells #[.int .i64 0, .int .i64 0, .int .i64 0, .int .i64 0] 69)).cell? ⟨w.heap.size + 1 + 1 + 1, 3, none⟩ = some (.int .i64 0) := by simp [go_sem]
  have bl3 : w.heap.size + 1 + 1 + 1 < ((((w.alloc (.cells #[.slice A' n' c'] 39)).alloc (.cells #[.int .i64 base, .int .i64 size, .int .i64 head, .int .i64 tail] 69)).alloc (.cells #[.slice none 0 0] 39)).alloc (.cells #[.int .i64 0, .int .i64 0, .int .i64 0, .int .i64 0] 69)).heap.size := by go_size
  have hk3 : Blk ((((w.alloc (.cells #[.slice A' n' c'] 39)).alloc (.cells #[.int .i64 base, .int .i64 size, .int .i64 head, .int .i64 tail] 69)).alloc (.cells #[.slice none 0 0] 39)).alloc (.cells #[.int .i64 0, .int .i64 0, .int .i64 0, .int .i64 0] 69)) (w.heap.size + 1 + 1 + 1) 69 [.int .i64 0, .int .i64 0, .int .i64 0, .int .i64 0] := by simpa using Blk.new (((w.alloc (.cells #[.slice A' n' c'] 39)).alloc (.cells #[.int .i64 base, .int .i64 size, .int .i64 head, .int .i64 tail] 69)).alloc (.cells #[.slice none 0 0] 39)) 69 [.int .i64 0, .int .i64 0, .int .i64 0, .int .i64 0]
  have r_a := r_a.below k0
  have r_b := r_b.below k0
  have p0 := k0.size
  generalize hW0 : ((((w.alloc (.cells #[.slice A' n' c'] 39)).alloc (.cells #[.int .i64 base, .int .i64 size, .int .i64 head, .int .i64 tail] 69)).alloc (.cells #[.slice none 0 0] 39)).alloc (.cells #[.int .i64 0, .int .i64 0, .int .i64 0, .int .i64 0] 69)) = w0 at *
  clear hW0
  have bx0_0 : w0.cell? ⟨w.heap.size, 0, none⟩ = some (.slice A' n' c') := (hk0.cell 0).trans rfl
  have fz0_0 := hk0.frozen 0
  have bx1_0 : w0.cell? ⟨w.heap.size + 1, 0, none⟩ = some (.int .i64 base) := (hk1.cell 0).trans rfl
  have fz1_0 := hk1.frozen 0
  have bx1_1 : w0.cell? ⟨w.heap.size + 1, 1, none⟩ = some (.int .i64 size) := (hk1.cell 1).trans rfl
  have fz1_1 := hk1.frozen 1
  have bx1_2 : w0.cell? ⟨w.heap.size + 1, 2, none⟩ = some (.int .i64 head) := (hk1.cell 2).trans rfl
  have fz1_2 := hk1.frozen 2
  have bx1_3 : w0.cell? ⟨w.heap.size + 1, 3, none⟩ = some (.int .i64 tail) := (hk1.cell 3).trans rfl
  have fz1_3 := hk1.frozen 3
  have bx2_0 : w0.cell? ⟨w.heap.size + 1 + 1, 0, none⟩ = some (.slice none 0 0) := (hk2.cell 0).trans rfl
  have fz2_0 := hk2.frozen 0
  have bx3_0 : w0.cell? ⟨w.heap.size + 1 + 1 + 1, 0, none⟩ = some (.int .i64 0) := (hk3.cell 0).trans rfl
  have fz3_0 := hk3.frozen 0
  have bx3_1 : w0.cell? ⟨w.heap.size + 1 + 1 + 1, 1, none⟩ = some (.int .i64 0) := (hk3.cell 1).trans rfl
  have fz3_1 := hk3.frozen 1
  have bx3_2 : w0.cell? ⟨w.heap.size + 1 + 1 + 1, 2, none⟩ = some (.int .i64 0) := (hk3.cell 2).trans rfl
  have fz3_2 := hk3.frozen 2
  have bx3_3 : w0.cell? ⟨w.heap.size + 1 + 1 + 1, 3, none⟩ = some (.int .i64 0) := (hk3.cell 3).trans rfl
  have fz3_3 := hk3.frozen 3
  refine (specRingFree_c _ _ _ _ _ hh ht).mono ?_
  rintro e w1 ⟨rfl, hb⟩
  have k1 : Below w.heap.size w w1 := ext_step k0 (by omega) hb
  have p1 := hb.size
  have hk0 := hk0.ext hb
  have hk1 := hk1.ext hb
  have hk2 := hk2.ext hb
  have hk3 := hk3.ext hb
  have bx0_0 : w1.cell? ⟨w.heap.size, 0, none⟩ = some (.slice A' n' c') := (hk0.cell 0).trans rfl
  have fz0_0 := hk0.frozen 0
  have bx1_0 : w1.cell? ⟨w.heap.size + 1, 0, none⟩ = some (.int .i64 base) := (hk1.cell 0).trans rfl
  have fz1_0 := hk1.frozen 0
  have bx1_1 : w1.cell? ⟨w.heap.size + 1, 1, none⟩ = some (.int .i64 size) := (hk1.cell 1).trans rfl
  have fz1_1 := hk1.frozen 1
  have bx1_2 : w1.cell? ⟨w.heap.size + 1, 2, none⟩ = some (.int .i64 head) := (hk1.cell 2).trans rfl
  have fz1_2 := hk1.frozen 2
  have bx1_3 : w1.cell? ⟨w.heap.size + 1, 3, none⟩ = some (.int .i64 tail) := (hk1.cell 3).trans rfl
  have fz1_3 := hk1.frozen 3
  have bx2_0 : w1.cell? ⟨w.heap.size + 1 + 1, 0, none⟩ = some (.slice none 0 0) := (hk2.cell 0).trans rfl
  have fz2_0 := hk2.frozen 0
  have bx3_0 : w1.cell? ⟨w.heap.size + 1 + 1 + 1, 0, none⟩ = some (.int .i64 0) := (hk3.cell 0).trans rfl
  have fz3_0 := hk3.frozen 0
  have bx3_1 : w1.cell? ⟨w.heap.size + 1 + 1 + 1, 1, none⟩ = some (.int .i64 0) := (hk3.cell 1).trans rfl
  have fz3_1 := hk3.frozen 1
  have bx3_2 : w1.cell? ⟨w.heap.size + 1 + 1 + 1, 2, none⟩ = some (.int .i64 0) := (hk3.cell 2).trans rfl
  have fz3_2 := hk3.frozen 2
  have bx3_3 : w1.cell? ⟨w.heap.size + 1 + 1 + 1, 3, none⟩ = some (.int .i64 0) := (hk3.cell 3).trans rfl
  have fz3_3 := hk3.frozen 3
  have bl0 := Nat.lt_of_lt_of_le bl0 hb.size
  have bl1 := Nat.lt_of_lt_of_le bl1 hb.size
  have bl2 := Nat.lt_of_lt_of_le bl2 hb.size
  have bl3 := Nat.lt_of_lt_of_le bl3 hb.size
  have r_a := r_a.below (hb.mono (by omega))
  have r_b := r_b.below (hb.mono (by omega))
  clear hb
  go_wp2_with fail
  refine wp_region_slotsS (w.heap.size) [(27, fun _ v => v = .slice A n c), (28, fun _ v => v = .agg #[.slice A' n' c']), (29, fun _ v => v = .int .i64 d), (30, fun _ v => v = .agg #[.int .i64 base, .int .i64 size, .int .i64 head, .int .i64 tail]), (31, fun _ v => v = .pointer (some ⟨w.heap.size + 1, 3, none⟩)), (32, fun _ v => v = .int .i64 tail), (33, fun _ v => v = .int .i64 (slotI base size head tail tail)), (34, fun _ v => v = .string s), (35, RowP w1.heap.size 9 1 n' ((dmaW l pg d (slotI base size head tail tail) s true).flatMap fun x : ByteArray => [Value.string x]) (fun A c => .tuple #[.agg #[.slice A n' c], .bool (dmaOk l pg d (slotI base size head tail tail) s.size true)])), (26, RowP w1.heap.size 9 1 n' ((dmaW l pg d (slotI base size head tail tail) s true).flatMap fun x : ByteArray => [Value.string x]) (fun A c => .tuple #[.agg #[.slice A n' c], .bool (dmaOk l pg d (slotI base size head tail tail) s.size true)])), (36, RowP w1.heap.size 9 1 n' ((dmaW l pg d (slotI base size head tail tail) s true).flatMap fun x : ByteArray => [Value.string x]) (fun A c => .agg #[.slice A n' c])), (37, fun _ v => v = .bool (dmaOk l pg d (slotI base size head tail tail) s.size true)), (13, BoxP w1.heap.size 39 1), (14, fun _ v => v = .bool (dmaOk l pg d (slotI base size head tail tail) s.size true))] [⟨13, 13, fun _ => True, StoR w1.heap.size 39 9 1 n' ((dmaW l pg d (slotI base size head tail tail) s true).flatMap fun x : ByteArray => [Value.string x]) (fun A c => [.slice A n' c])⟩] (fun u => Blk u (w.heap.size) 39 [.slice A' n' c'] ∧ Blk u (w.heap.size + 1) 69 [.int .i64 base, .int .i64 size, .int .i64 head, .int .i64 tail] ∧ Blk u (w.heap.size + 1 + 1) 39 [.slice none 0 0] ∧ Blk u (w.heap.size + 1 + 1 + 1) 69 [.int .i64 0, .int .i64 0, .int .i64 0, .int .i64 0]) (by kernel_rfl) (by omega) (by kernel_rfl) (by kernel_rfl) (by kernel_rfl) (by kernel_rfl) ?_ ?_ ?_ ?_ ?_ ?_ ?_
  · intro p hp
    simp only [List.mem_cons, List.not_mem_nil, or_false] at hp
    rcases hp with rfl | rfl | rfl | rfl | rfl | rfl | rfl | rfl | rfl | rfl | rfl | rfl | rfl | rfl
    all_goals (intro u u' v hb hv; first | exact hv | exact BoxP.keep hv hb | exact RowP.keep hv hb)
  · intro s hs u u' hb
    simp only [List.mem_cons, List.not_mem_nil, or_false] at hs
    rcases hs with rfl
    all_goals (refine ⟨fun h => ?_, fun _ h => ?_⟩ <;> first | exact h | exact StoP.keep h hb | exact StoR.keep h hb | exact Blk.ext h hb | exact StaR.keep h hb)
  · intro s hs
    simp only [List.mem_cons, List.not_mem_nil, or_false] at hs
    rcases hs with rfl
    all_goals first | trivial
  · exact ⟨hk0, hk1, hk2, hk3⟩
  · intro u u' hb hj
    obtain ⟨j0, j1, j2, j3⟩ := hj
    exact ⟨(j0.ext hb), (j1.ext hb), (j2.ext hb), (j3.ext hb)⟩
  · intro hGk hSk hJk
    refine allStep_cons (stepS_plain hGk hSk (by omega) hJk (by kernel_rfl) rfl ?_) ?_
    · intro a u hb hz hj hl hp K Q hK
      have e0 : a.tmps[0]?.getD undef = .slice A n c := gd (hl 0 (by kernel_rfl))
      go_simp
      exact hK _ _ (Below.refl _ _) (by intro d hd; cases hd; exact rfl)
    refine allStep_cons (stepS_plain hGk hSk (by omega) hJk (by kernel_rfl) rfl ?_) ?_
    · intro a u hb hz hj hl hp K Q hK
      have e6 : a.tmps[6]?.getD undef = .pointer (some ⟨w.heap.size, 0, none⟩) := gd (hl 6 (by kernel_rfl))
      obtain ⟨j0, j1, j2, j3⟩ := hj
      have hBb := j0
      have gb0 : u.cell? ⟨w.heap.size, 0, none⟩ = some (.slice A' n' c') := (hBb.cell 0).trans rfl
      go_simp
      exact hK _ _ (Below.refl _ _) (by intro d hd; cases hd; exact rfl)
    refine allStep_cons (stepS_plain hGk hSk (by omega) hJk (by kernel_rfl) rfl ?_) ?_
    · intro a u hb hz hj hl hp K Q hK
      have e2 : a.tmps[2]?.getD undef = .int .i64 d := gd (hl 2 (by kernel_rfl))
      go_simp
      exact hK _ _ (Below.refl _ _) (by intro d hd; cases hd; exact rfl)
    refine allStep_cons (stepS_plain hGk hSk (by omega) hJk (by kernel_rfl) rfl ?_) ?_
    · intro a u hb hz hj hl hp K Q hK
      have e8 : a.tmps[8]?.getD undef = .pointer (some ⟨w.heap.size + 1, 0, none⟩) := gd (hl 8 (by kernel_rfl))
      obtain ⟨j0, j1, j2, j3⟩ := hj
      have hBb := j1
      have gb0 : u.cell? ⟨w.heap.size + 1, 0, none⟩ = some (.int .i64 base) := (hBb.cell 0).trans rfl
      have gb1 : u.cell? ⟨w.heap.size + 1, 1, none⟩ = some (.int .i64 size) := (hBb.cell 1).trans rfl
      have gb2 : u.cell? ⟨w.heap.size + 1, 2, none⟩ = some (.int .i64 head) := (hBb.cell 2).trans rfl
      have gb3 : u.cell? ⟨w.heap.size + 1, 3, none⟩ = some (.int .i64 tail) := (hBb.cell 3).trans rfl
      go_simp
      exact hK _ _ (Below.refl _ _) (by intro d hd; cases hd; exact rfl)
    refine allStep_cons (stepS_plain hGk hSk (by omega) hJk (by kernel_rfl) rfl ?_) ?_
    · intro a u hb hz hj hl hp K Q hK
      have e8 : a.tmps[8]?.getD undef = .pointer (some ⟨w.heap.size + 1, 0, none⟩) := gd (hl 8 (by kernel_rfl))
      go_simp
      exact hK _ _ (Below.refl _ _) (by intro d hd; cases hd; exact rfl)
    refine allStep_cons (stepS_plain hGk hSk (by omega) hJk (by kernel_rfl) rfl ?_) ?_
    · intro a u hb hz hj hl hp K Q hK
      have e31 : a.tmps[31]?.getD undef = .pointer (some ⟨w.heap.size + 1, 3, none⟩) := gd (hl 31 (by kernel_rfl))
      obtain ⟨j0, j1, j2, j3⟩ := hj
      have hBb := j1
      have gb3 : u.cell? ⟨w.heap.size + 1, 3, none⟩ = some (.int .i64 tail) := (hBb.cell 3).trans rfl
      go_simp
      exact hK _ _ (Below.refl _ _) (by intro d hd; cases hd; exact rfl)
    refine allStep_cons (stepS_plain hGk hSk (by omega) hJk (by kernel_rfl) rfl ?_) ?_
    · intro a u hb hz hj hl hp K Q hK
      have e30 : a.tmps[30]?.getD undef = .agg #[.int .i64 base, .int .i64 size, .int .i64 head, .int .i64 tail] := gd (hl 30 (by kernel_rfl))
      have e32 : a.tmps[32]?.getD undef = .int .i64 tail := gd (hl 32 (by kernel_rfl))
      go_simp
      refine (specSlotAddress_c _ _ _ _ _ _ hh ht ht).mono ?_
      rintro e u1 ⟨rfl, hb1⟩
      exact hK _ _ hb1 (by intro d hd; cases hd; exact rfl)
    refine allStep_cons (stepS_plain hGk hSk (by omega) hJk (by kernel_rfl) rfl ?_) ?_
    · intro a u hb hz hj hl hp K Q hK
      have e4 : a.tmps[4]?.getD undef = .string s := gd (hl 4 (by kernel_rfl))
      go_simp
      exact hK _ _ (Below.refl _ _) (by intro d hd; cases hd; exact rfl)
    refine allStep_cons (stepS_plain hGk hSk (by omega) hJk (by kernel_rfl) rfl ?_) ?_
    · intro a u hb hz hj hl hp K Q hK
      have e27 : a.tmps[27]?.getD undef = .slice A n c := gd (hl 27 (by kernel_rfl))
      have e28 : a.tmps[28]?.getD undef = .agg #[.slice A' n' c'] := gd (hl 28 (by kernel_rfl))
      have e29 : a.tmps[29]?.getD undef = .int .i64 d := gd (hl 29 (by kernel_rfl))
      have e33 : a.tmps[33]?.getD undef = .int .i64 (slotI base size head tail tail) := gd (hl 33 (by kernel_rfl))
      have e34 : a.tmps[34]?.getD undef = .string s := gd (hl 34 (by kernel_rfl))
      go_simp
      refine (specDmaWrite_c _ _ _ _ _ _ l pg _ hn_a hn_b hs_a hs_b ((r_a.below (hb.mono (by omega))).more (by omega)) ((r_b.below (hb.mono (by omega))).more (by omega)) _ _ _ hI1 hsz).mono ?_
      rintro e u1 ⟨A_v, c_v, rfl, o_v, hb1⟩
      exact hK _ _ hb1 (by intro d hd; cases hd; exact ⟨A_v, c_v, rfl, own_base o_v (by omega)⟩)
    refine allStep_cons (stepS_plain hGk hSk (by omega) hJk (by kernel_rfl) rfl ?_) ?_
    · intro a u hb hz hj hl hp K Q hK
      obtain ⟨A1, c1, ex35, o1⟩ : RowP w1.heap.size 9 1 n' ((dmaW l pg d (slotI base size head tail tail) s true).flatMap fun x : ByteArray => [Value.string x]) (fun A c => .tuple #[.agg #[.slice A n' c], .bool (dmaOk l pg d (slotI base size head tail tail) s.size true)]) u (a.tmps.getD 35 undef) := hl 35 (by kernel_rfl)
      have e35 := gd ex35
      go_simp
      exact hK _ _ (Below.refl _ _) (by intro d hd; cases hd; exact ⟨A1, c1, rfl, o1⟩)
    refine allStep_cons (stepS_plain hGk hSk (by omega) hJk (by kernel_rfl) rfl ?_) ?_
    · intro a u hb hz hj hl hp K Q hK
      obtain ⟨A1, c1, ex26, o1⟩ : RowP w1.heap.size 9 1 n' ((dmaW l pg d (slotI base size head tail tail) s true).flatMap fun x : ByteArray => [Value.string x]) (fun A c => .tuple #[.agg #[.slice A n' c], .bool (dmaOk l pg d (slotI base size head tail tail) s.size true)]) u (a.tmps.getD 26 undef) := hl 26 (by kernel_rfl)
      have e26 := gd ex26
      go_simp
      exact hK _ _ (Below.refl _ _) (by intro d hd; cases hd; exact ⟨A1, c1, rfl, o1⟩)
    refine allStep_cons (stepS_plain hGk hSk (by omega) hJk (by kernel_rfl) rfl ?_) ?_
    · intro a u hb hz hj hl hp K Q hK
      obtain ⟨A1, c1, ex26, o1⟩ : RowP w1.heap.size 9 1 n' ((dmaW l pg d (slotI base size head tail tail) s true).flatMap fun x : ByteArray => [Value.string x]) (fun A c => .tuple #[.agg #[.slice A n' c], .bool (dmaOk l pg d (slotI base size head tail tail) s.size true)]) u (a.tmps.getD 26 undef) := hl 26 (by kernel_rfl)
      have e26 := gd ex26
      go_simp
      exact hK _ _ (Below.refl _ _) (by intro d hd; cases hd; exact rfl)
    refine allStep_cons (stepS_plain hGk hSk (by omega) hJk (by kernel_rfl) rfl ?_) ?_
    · intro a u hb hz hj hl hp K Q hK
      go_simp
      exact hK _ _ (by go_grown) (by intro d hd; cases hd; exact BoxP.new _ _ [.slice none 0 0] (by omega) rfl)
    refine allStep_cons (stepS_store (Chg w1.heap.size 39) (fun _ _ hc hb => hc.below' (by omega) hb) (fun _ _ hc => hc.size) (hold_rel ?_) ?_ ?_ rfl rfl ?_) ?_
    · intro p hp
      simp only [List.mem_cons, List.not_mem_nil, or_false] at hp
      rcases hp with rfl | rfl | rfl | rfl | rfl | rfl | rfl | rfl | rfl | rfl | rfl | rfl | rfl | rfl
      all_goals (intro u u' v hb hv; first | exact hv | exact BoxP.chg hv hb | exact RowP.chg hv hb (by decide))
    · intro s hs hne u u' hb
      simp only [List.mem_cons, List.not_mem_nil, or_false] at hs
      rcases hs with rfl
      all_goals first | exact absurd (by rfl) hne | (refine ⟨fun h => ?_, fun _ h => ?_⟩ <;> first | exact h | exact StoP.chg h hb (by decide) | exact StoR.chg h hb (by decide) (by decide) | exact Blk.chgL h hb (by omega) | exact StaR.chgL h hb (by omega) (by decide))
    · intro u u' hb hj
      obtain ⟨j0, j1, j2, j3⟩ := hj
      exact ⟨(j0.chgL hb (by omega)), (j1.chgL hb (by omega)), (j2.chgL hb (by omega)), (j3.chgL hb (by omega))⟩
    · intro a u hb hz hj hl hp K Q hK
      obtain ⟨b, exb, hB, zs, hzl, hbk⟩ : BoxP w1.heap.size 39 1 u (a.tmps.getD 13 undef) := hl 13 (by kernel_rfl)
      have e13 := gd exb
      obtain ⟨A2, c2, ex36, o2⟩ : RowP w1.heap.size 9 1 n' ((dmaW l pg d (slotI base size head tail tail) s true).flatMap fun x : ByteArray => [Value.string x]) (fun A c => .agg #[.slice A n' c]) u (a.tmps.getD 36 undef) := hl 36 (by kernel_rfl)
      have e36 := gd ex36
      obtain ⟨z0, rfl⟩ : ∃ z0, zs = [z0] := (by match zs, hzl with | [z0], _ => exact ⟨_, rfl⟩)
      have hlt := hbk.lt
      have g0 : u.cell? ⟨b, 0, none⟩ = some z0 := (hbk.cell 0).trans rfl
      have f0 := hbk.frozen 0
      go_simp
      refine hK undef _ ((Chg.refl _ _ _).set hbk hB 0 _) (fun s hs he => ?_)
      simp only [List.mem_cons, List.not_mem_nil, or_false] at hs
      rcases hs with rfl
      · exact ⟨b, A2, c2, exb, hB, (hbk.set_ 0 _), own_chg o2 ((Chg.refl _ _ _).set hbk hB 0 _) (by decide)⟩
    refine allStep_cons (stepS_plain hGk hSk (by omega) hJk (by kernel_rfl) rfl ?_) ?_
    · intro a u hb hz hj hl hp K Q hK
      have e37 : a.tmps[37]?.getD undef = .bool (dmaOk l pg d (slotI base size head tail tail) s.size true) := gd (hl 37 (by kernel_rfl))
      go_simp
      exact hK _ _ (Below.refl _ _) (by intro d hd; cases hd; exact rfl)
    exact allStep_nil
  intro x w2 hb hz hj hL hSt
  obtain ⟨hk0, hk1, hk2, hk3⟩ := hj
  have fx14 : x 14 = .bool (dmaOk l pg d (slotI base size head tail tail) s.size true) := hL _ (List.mem_of_getElem? (i := 13) rfl)
  obtain ⟨bk_4, A_v, c_v, fx13, lo4, hk4, o_v⟩ : StoR w1.heap.size 39 9 1 n' ((dmaW l pg d (slotI base size head tail tail) s true).flatMap fun x : ByteArray => [Value.string x]) (fun A c => [.slice A n' c]) w2 (x 13) := hSt _ (List.mem_of_getElem? (i := 0) rfl)
  simp only [List.map, putAll, fx14, fx13]
  have bl4 := hk4.lt
  have k2 : Below w.heap.size w w2 := k1.trans hb
  have p2 : w1.heap.size ≤ w2.heap.size := hb.size
  have bl0 := Nat.lt_of_lt_of_le bl0 hb.size
  have bl1 := Nat.lt_of_lt_of_le bl1 hb.size
  have bl2 := Nat.lt_of_lt_of_le bl2 hb.size
  have bl3 := Nat.lt_of_lt_of_le bl3 hb.size
  have r_a := r_a.below hb
  have r_b := r_b.below hb
  have nb_v_4 := own_ty o_v hk4 (by decide)
  have r_v := Reads.of_own o_v
  have u_v := fun k hk => (o_v.lt k hk).2
  have bx0_0 : w2.cell? ⟨w.heap.size, 0, none⟩ = some (.slice A' n' c') := (hk0.cell 0).trans rfl
  have fz0_0 := hk0.frozen 0
  have bx1_0 : w2.cell? ⟨w.heap.size + 1, 0, none⟩ = some (.int .i64 base) := (hk1.cell 0).trans rfl
  have fz1_0 := hk1.frozen 0
  have bx1_1 : w2.cell? ⟨w.heap.size + 1, 1, none⟩ = some (.int .i64 size) := (hk1.cell 1).trans rfl
  have fz1_1 := hk1.frozen 1
  have bx1_2 : w2.cell? ⟨w.heap.size + 1, 2, none⟩ = some (.int .i64 head) := (hk1.cell 2).trans rfl
  have fz1_2 := hk1.frozen 2
  have bx1_3 : w2.cell? ⟨w.heap.size + 1, 3, none⟩ = some (.int .i64 tail) := (hk1.cell 3).trans rfl
  have fz1_3 := hk1.frozen 3
  have bx2_0 : w2.cell? ⟨w.heap.size + 1 + 1, 0, none⟩ = some (.slice none 0 0) := (hk2.cell 0).trans rfl
  have fz2_0 := hk2.frozen 0
  have bx3_0 : w2.cell? ⟨w.heap.size + 1 + 1 + 1, 0, none⟩ = some (.int .i64 0) := (hk3.cell 0).trans rfl
  have fz3_0 := hk3.frozen 0
  have bx3_1 : w2.cell? ⟨w.heap.size + 1 + 1 + 1, 1, none⟩ = some (.int .i64 0) := (hk3.cell 1).trans rfl
  have fz3_1 := hk3.frozen 1
  have bx3_2 : w2.cell? ⟨w.heap.size + 1 + 1 + 1, 2, none⟩ = some (.int .i64 0) := (hk3.cell 2).trans rfl
  have fz3_2 := hk3.frozen 2
  have bx3_3 : w2.cell? ⟨w.heap.size + 1 + 1 + 1, 3, none⟩ = some (.int .i64 0) := (hk3.cell 3).trans rfl
  have fz3_3 := hk3.frozen 3
  have bx4_0 : w2.cell? ⟨bk_4, 0, none⟩ = some (.slice A_v n' c_v) := (hk4.cell 0).trans rfl
  have fz4_0 := hk4.frozen 0
  clear hL hSt hb hz fx14 fx13
  rw [HD.out]
  go_wp2_with fail
  refine wp_region_slotsS (w.heap.size) [(40, fun _ v => v = .agg #[.slice A' n' c']), (41, RowP w2.heap.size 9 1 n' (pg.flatMap fun x : ByteArray => [Value.string x]) (fun A c => .agg #[.slice A n' c])), (42, fun _ v => v = .agg #[.int .i64 base, .int .i64 size, .int .i64 head, .int .i64 tail]), (12, fun _ v => v = .bool false)] [⟨3, 41, fun u => Blk u (w.heap.size + 1 + 1) 39 [.slice none 0 0], StaR w2.heap.size (w.heap.size + 1 + 1) 39 9 1 n' (pg.flatMap fun x : ByteArray => [Value.string x]) (fun A c => .agg #[.slice A n' c]) (fun A c => [.slice A n' c])⟩, ⟨4, 42, fun u => Blk u (w.heap.size + 1 + 1 + 1) 69 [.int .i64 0, .int .i64 0, .int .i64 0, .int .i64 0], fun u _ => Blk u (w.heap.size + 1 + 1 + 1) 69 [.int .i64 base, .int .i64 size, .int .i64 head, .int .i64 tail]⟩] (fun u => Blk u (w.heap.size) 39 [.slice A' n' c'] ∧ Blk u (w.heap.size + 1) 69 [.int .i64 base, .int .i64 size, .int .i64 head, .int .i64 tail] ∧ Blk u (bk_4) 39 [.slice A_v n' c_v] ∧ u.ownsRow (w1.heap.size) 9 1 (.slice A_v n' c_v) n' ((dmaW l pg d (slotI base size head tail tail) s true).flatMap fun x : ByteArray => [Value.string x])) (by kernel_rfl) (by omega) (by kernel_rfl) (by kernel_rfl) (by kernel_rfl) (by kernel_rfl) ?_ ?_ ?_ ?_ ?_ ?_ ?_
  · intro p hp
    simp only [List.mem_cons, List.not_mem_nil, or_false] at hp
    rcases hp with rfl | rfl | rfl | rfl
    all_goals (intro u u' v hb hv; first | exact hv | exact BoxP.keep hv hb | exact RowP.keep hv hb)
  · intro s hs u u' hb
    simp only [List.mem_cons, List.not_mem_nil, or_false] at hs
    rcases hs with rfl | rfl
    all_goals (refine ⟨fun h => ?_, fun _ h => ?_⟩ <;> first | exact h | exact StoP.keep h hb | exact StoR.keep h hb | exact Blk.ext h hb | exact StaR.keep h hb)
  · intro s hs
    simp only [List.mem_cons, List.not_mem_nil, or_false] at hs
    rcases hs with rfl | rfl
    all_goals first | trivial | exact hk2 | exact hk3
  · exact ⟨hk0, hk1, hk4, o_v⟩
  · intro u u' hb hj
    obtain ⟨j0, j1, j2, j3⟩ := hj
    exact ⟨(j0.ext hb), (j1.ext hb), (j2.ext hb), (own_ext j3 hb)⟩
  · intro hGk hSk hJk
    refine allStep_cons (stepS_plain hGk hSk (by omega) hJk (by kernel_rfl) rfl ?_) ?_
    · intro a u hb hz hj hl hp K Q hK
      have e6 : a.tmps[6]?.getD undef = .pointer (some ⟨w.heap.size, 0, none⟩) := gd (hl 6 (by kernel_rfl))
      obtain ⟨j0, j1, j2, j3⟩ := hj
      have hBb := j0
      have gb0 : u.cell? ⟨w.heap.size, 0, none⟩ = some (.slice A' n' c') := (hBb.cell 0).trans rfl
      go_simp
      exact hK _ _ (Below.refl _ _) (by intro d hd; cases hd; exact rfl)
    refine allStep_cons (stepS_plain hGk hSk (by omega) hJk (by kernel_rfl) rfl ?_) ?_
    · intro a u hb hz hj hl hp K Q hK
      have e40 : a.tmps[40]?.getD undef = .agg #[.slice A' n' c'] := gd (hl 40 (by kernel_rfl))
      go_simp
      refine (l16Copy_c _ _ _ pg _ hn_b (by omega) ((r_b.below (hb.mono (by omega))).more (by omega))).mono ?_
      rintro e u1 ⟨A_q, c_q, rfl, o_q, hb1⟩
      exact hK _ _ hb1 (by intro d hd; cases hd; exact ⟨A_q, c_q, rfl, own_base o_q (by omega)⟩)
    refine allStep_cons (stepS_plain hGk hSk (by omega) hJk (by kernel_rfl) rfl ?_) ?_
    · intro a u hb hz hj hl hp K Q hK
      have e8 : a.tmps[8]?.getD undef = .pointer (some ⟨w.heap.size + 1, 0, none⟩) := gd (hl 8 (by kernel_rfl))
      obtain ⟨j0, j1, j2, j3⟩ := hj
      have hBb := j1
      have gb0 : u.cell? ⟨w.heap.size + 1, 0, none⟩ = some (.int .i64 base) := (hBb.cell 0).trans rfl
      have gb1 : u.cell? ⟨w.heap.size + 1, 1, none⟩ = some (.int .i64 size) := (hBb.cell 1).trans rfl
      have gb2 : u.cell? ⟨w.heap.size + 1, 2, none⟩ = some (.int .i64 head) := (hBb.cell 2).trans rfl
      have gb3 : u.cell? ⟨w.heap.size + 1, 3, none⟩ = some (.int .i64 tail) := (hBb.cell 3).trans rfl
      go_simp
      exact hK _ _ (Below.refl _ _) (by intro d hd; cases hd; exact rfl)
    refine allStep_cons (stepS_store (ChgA (w.heap.size + 1 + 1)) (fun _ _ hc hb => hc.below (by omega) hb) (fun _ _ hc => hc.size) (hold_rel ?_) ?_ ?_ rfl rfl ?_) ?_
    · intro p hp
      simp only [List.mem_cons, List.not_mem_nil, or_false] at hp
      rcases hp with rfl | rfl | rfl | rfl
      all_goals (intro u u' v hb hv; first | exact hv | exact BoxP.chgA hv hb (by omega) | exact RowP.chgA hv hb (by omega))
    · intro s hs hne u u' hb
      simp only [List.mem_cons, List.not_mem_nil, or_false] at hs
      rcases hs with rfl | rfl
      all_goals first | exact absurd (by rfl) hne | (refine ⟨fun h => ?_, fun _ h => ?_⟩ <;> first | exact h | exact Blk.chgA h hb (by omega) | exact StoP.chgA h hb (by omega) | exact StoR.chgA h hb (by omega) | exact StaR.chgA h hb (by omega) (by omega))
    · intro u u' hb hj
      obtain ⟨j0, j1, j2, j3⟩ := hj
      exact ⟨(j0.chgA hb (by omega)), (j1.chgA hb (by omega)), (j2.chgA hb (by omega)), (own_chgA j3 hb (fun k hk => by have h1 := o_v.lt k hk; omega))⟩
    · intro a u hb hz hj hl hp K Q hK
      have e10 : a.tmps[10]?.getD undef = .pointer (some ⟨w.heap.size + 1 + 1, 0, none⟩) := gd (hl 10 (by kernel_rfl))
      have hBs : Blk u (w.heap.size + 1 + 1) 39 [.slice none 0 0] := hp _ (List.mem_of_getElem? (i := 0) rfl) (by kernel_rfl)
      have gs0 : u.cell? ⟨w.heap.size + 1 + 1, 0, none⟩ = some (.slice none 0 0) := (hBs.cell 0).trans rfl
      have f0 := hBs.frozen 0
      obtain ⟨A2, c2, ex41, o2⟩ : RowP w2.heap.size 9 1 n' (pg.flatMap fun x : ByteArray => [Value.string x]) (fun A c => .agg #[.slice A n' c]) u (a.tmps.getD 41 undef) := hl 41 (by kernel_rfl)
      have e41 := gd ex41
      go_simp
      refine hK undef _ ((ChgA.refl _ _).set 0 _) (fun s hs he => ?_)
      simp only [List.mem_cons, List.not_mem_nil, or_false] at hs
      rcases hs with rfl | rfl
      · exact ⟨A2, c2, ex41, (hBs.set_ 0 _), own_chgA o2 ((ChgA.refl _ _).set 0 _) (fun k hk => by have := (o2.lt k hk).1; omega)⟩
      · exact absurd (show (4 : Nat) = 3 from he) (by decide)
    refine allStep_cons (stepS_store (ChgA (w.heap.size + 1 + 1 + 1)) (fun _ _ hc hb => hc.below (by omega) hb) (fun _ _ hc => hc.size) (hold_rel ?_) ?_ ?_ rfl rfl ?_) ?_
    · intro p hp
      simp only [List.mem_cons, List.not_mem_nil, or_false] at hp
      rcases hp with rfl | rfl | rfl | rfl
      all_goals (intro u u' v hb hv; first | exact hv | exact BoxP.chgA hv hb (by omega) | exact RowP.chgA hv hb (by omega))
    · intro s hs hne u u' hb
      simp only [List.mem_cons, List.not_mem_nil, or_false] at hs
      rcases hs with rfl | rfl
      all_goals first | exact absurd (by rfl) hne | (refine ⟨fun h => ?_, fun _ h => ?_⟩ <;> first | exact h | exact Blk.chgA h hb (by omega) | exact StoP.chgA h hb (by omega) | exact StoR.chgA h hb (by omega) | exact StaR.chgA h hb (by omega) (by omega))
    · intro u u' hb hj
      obtain ⟨j0, j1, j2, j3⟩ := hj
      exact ⟨(j0.chgA hb (by omega)), (j1.chgA hb (by omega)), (j2.chgA hb (by omega)), (own_chgA j3 hb (fun k hk => by have h1 := o_v.lt k hk; omega))⟩
    · intro a u hb hz hj hl hp K Q hK
      have e11 : a.tmps[11]?.getD undef = .pointer (some ⟨w.heap.size + 1 + 1 + 1, 0, none⟩) := gd (hl 11 (by kernel_rfl))
      have hBs : Blk u (w.heap.size + 1 + 1 + 1) 69 [.int .i64 0, .int .i64 0, .int .i64 0, .int .i64 0] := hp _ (List.mem_of_getElem? (i := 1) rfl) (by kernel_rfl)
      have gs0 : u.cell? ⟨w.heap.size + 1 + 1 + 1, 0, none⟩ = some (.int .i64 0) := (hBs.cell 0).trans rfl
      have gs1 : u.cell? ⟨w.heap.size + 1 + 1 + 1, 1, none⟩ = some (.int .i64 0) := (hBs.cell 1).trans rfl
      have gs2 : u.cell? ⟨w.heap.size + 1 + 1 + 1, 2, none⟩ = some (.int .i64 0) := (hBs.cell 2).trans rfl
      have gs3 : u.cell? ⟨w.heap.size + 1 + 1 + 1, 3, none⟩ = some (.int .i64 0) := (hBs.cell 3).trans rfl
      have f0 := hBs.frozen 0
      have f1 := hBs.frozen 1
      have f2 := hBs.frozen 2
      have f3 := hBs.frozen 3
      have e42 : a.tmps[42]?.getD undef = .agg #[.int .i64 base, .int .i64 size, .int .i64 head, .int .i64 tail] := gd (hl 42 (by kernel_rfl))
      go_simp
      refine hK undef _ (((((ChgA.refl _ _).set 0 _).set 1 _).set 2 _).set 3 _) (fun s hs he => ?_)
      simp only [List.mem_cons, List.not_mem_nil, or_false] at hs
      rcases hs with rfl | rfl
      · exact absurd (show (3 : Nat) = 4 from he) (by decide)
      · exact ((((hBs.set_ 0 _).set_ 1 _).set_ 2 _).set_ 3 _)
    refine allStep_cons (stepS_plain hGk hSk (by omega) hJk (by kernel_rfl) rfl ?_) ?_
    · intro a u hb hz hj hl hp K Q hK
      go_simp
      exact hK _ _ (Below.refl _ _) (by intro d hd; cases hd; exact rfl)
    exact allStep_nil
  intro x w3 hb hz hj hL hSt
  obtain ⟨hk0, hk1, hk4, o_v⟩ := hj
  have fx12 : x 12 = .bool false := hL _ (List.mem_of_getElem? (i := 3) rfl)
  obtain ⟨A_q, c_q, fy, hk2, o_q⟩ : StaR w2.heap.size (w.heap.size + 1 + 1) 39 9 1 n' (pg.flatMap fun x : ByteArray => [Value.string x]) (fun A c => .agg #[.slice A n' c]) (fun A c => [.slice A n' c]) w3 (x 41) := hSt _ (List.mem_of_getElem? (i := 0) rfl)
  clear fy
  have hk3 : Blk w3 (w.heap.size + 1 + 1 + 1) 69 [.int .i64 base, .int .i64 size, .int .i64 head, .int .i64 tail] := hSt _ (List.mem_of_getElem? (i := 1) rfl)
  simp only [List.map, putAll, fx12]
  have k3 : Below w.heap.size w w3 := k2.trans hb
  have p3 : w2.heap.size ≤ w3.heap.size := hb.size
  have bl0 := Nat.lt_of_lt_of_le bl0 hb.size
  have bl1 := Nat.lt_of_lt_of_le bl1 hb.size
  have bl2 := Nat.lt_of_lt_of_le bl2 hb.size
  have bl3 := Nat.lt_of_lt_of_le bl3 hb.size
  have bl4 := Nat.lt_of_lt_of_le bl4 hb.size
  have r_a := r_a.below hb
  have r_b := r_b.below hb
  have r_v := Reads.of_own o_v
  have r_q := Reads.of_own o_q
  have u_q := fun k hk => (o_q.lt k hk).2
  have bx0_0 : w3.cell? ⟨w.heap.size, 0, none⟩ = some (.slice A' n' c') := (hk0.cell 0).trans rfl
  have fz0_0 := hk0.frozen 0
  have bx1_0 : w3.cell? ⟨w.heap.size + 1, 0, none⟩ = some (.int .i64 base) := (hk1.cell 0).trans rfl
  have fz1_0 := hk1.frozen 0
  have bx1_1 : w3.cell? ⟨w.heap.size + 1, 1, none⟩ = some (.int .i64 size) := (hk1.cell 1).trans rfl
  have fz1_1 := hk1.frozen 1
  have bx1_2 : w3.cell? ⟨w.heap.size + 1, 2, none⟩ = some (.int .i64 head) := (hk1.cell 2).trans rfl
  have fz1_2 := hk1.frozen 2
  have bx1_3 : w3.cell? ⟨w.heap.size + 1, 3, none⟩ = some (.int .i64 tail) := (hk1.cell 3).trans rfl
  have fz1_3 := hk1.frozen 3
  have bx2_0 : w3.cell? ⟨w.heap.size + 1 + 1, 0, none⟩ = some (.slice A_q n' c_q) := (hk2.cell 0).trans rfl
  have fz2_0 := hk2.frozen 0
  have bx3_0 : w3.cell? ⟨w.heap.size + 1 + 1 + 1, 0, none⟩ = some (.int .i64 base) := (hk3.cell 0).trans rfl
  have fz3_0 := hk3.frozen 0
  have bx3_1 : w3.cell? ⟨w.heap.size + 1 + 1 + 1, 1, none⟩ = some (.int .i64 size) := (hk3.cell 1).trans rfl
  have fz3_1 := hk3.frozen 1
  have bx3_2 : w3.cell? ⟨w.heap.size + 1 + 1 + 1, 2, none⟩ = some (.int .i64 head) := (hk3.cell 2).trans rfl
  have fz3_2 := hk3.frozen 2
  have bx3_3 : w3.cell? ⟨w.heap.size + 1 + 1 + 1, 3, none⟩ = some (.int .i64 tail) := (hk3.cell 3).trans rfl
  have fz3_3 := hk3.frozen 3
  have bx4_0 : w3.cell? ⟨bk_4, 0, none⟩ = some (.slice A_v n' c_v) := (hk4.cell 0).trans rfl
  have fz4_0 := hk4.frozen 0
  clear hL hSt hb hz fx12
  all_goals
    go_wp2
    refine bodyPost_ret (v := .tuple #[.agg #[.slice A_q n' c_q], .agg #[.int .i64 base, .int .i64 size, .int .i64 head, .int .i64 tail], .bool false]) (by simp [results, Try.results52, go_sem, bx2_0, bx3_0, bx3_1, bx3_2, bx3_3]) rfl ?_
    exact ⟨A_q, c_q, rfl, own_base o_q (by omega), k3⟩
set_option maxRecDepth 100000 in
set_option maxHeartbeats 2000000 in
theorem specRingPut_4 (A A' : Option Addr) (n c n' c' : Nat) (l : List Mapping) (pg : List ByteArray) (w : World) (hn_a : l.length = n) (hn_b : pg.length = n') (hs_a : n ≤ 1048576) (hs_b : n' ≤ 1048576) (r_a : Reads w w.heap.size 4 A n (l.flatMap Mapping.cells)) (r_b : Reads w w.heap.size 1 A' n' (pg.flatMap fun x : ByteArray => [Value.string x])) (d base size head tail : Int) (s : ByteArray) (hh : I64 head) (ht : I64 tail) (hsz : s.size ≤ 1048576) (hf2 : (freeI base size head tail == 0) = false) (h17 : ((s.size : Int) == 16) = true) (h18 : ((s.size : Int) != 16) = false) (hok : ringB base size head tail = true) (hd : dmaOk l pg d (slotI base size head tail tail) s.size true = true) :
    Calls Try.prog 52 #[.slice A n c, .agg #[.slice A' n' c'], .int .i64 d, .agg #[.int .i64 base, .int .i64 size, .int .i64 head, .int .i64 tail], .string s] w fun e w' => ∃ A2 c2, e = .returned (.tuple #[.agg #[.slice A2 n' c2], .agg #[.int .i64 base, .int .i64 size, .int .i64 head, .int .i64 ((tail + 1) % (2 * size))], .bool true]) ∧ w'.ownsRow w.heap.size 9 1 (.slice A2 n' c2) n' ((dmaW l pg d (slotI base size head tail tail) s true).flatMap fun x : ByteArray => [Value.string x]) ∧ Below w.heap.size w w' := by
  obtain ⟨b1, b2, b3, b4, b5, b6, b7, b8, b9⟩ := ringB_size hok
  have hp : (2 * size == 0) = false := by simp; omega
  have hsb := slotI_bd2 hok b7 (by omega)
  have hI1 : I64 (slotI base size head tail tail) := ⟨by omega, by omega⟩
  have m1 := Int.emod_nonneg (tail + 1) (show 2 * size ≠ 0 by omega)
  have m2 := Int.emod_lt_of_pos (tail + 1) (show 0 < 2 * size by omega)
  have HD := Lib.hid hd
  clear hsb hok
  clear hd
  go_enter Try.func52, Try.ntmps52
  go_wp2_with fail
  have k0 : Below w.heap.size w ((((w.alloc (.cells #[.slice A' n' c'] 39)).alloc (.cells #[.int .i64 base, .int .i64 size, .int .i64 head, .int .i64 tail] 69)).alloc (.cells #[.slice none 0 0] 39)).alloc (.cells #[.int .i64 0, .int .i64 0, .int .i64 0, .int .i64 0] 69)) := by go_grown
  have bx0_0 : ((((w.alloc (.cells #[.slice A' n' c'] 39)).alloc (.cells #[.int .i64 base, .int .i64 size, .int .i64 head, .int .i64 tail] 69)).alloc (.cells #[.slice none 0 0] 39)).alloc (.cells #[.int .i64 0, .int .i64 0, .int .i64 0, .int .i64 0] 69)).cell? ⟨w.heap.size, 0, none⟩ = some (.slice A' n' c') := by simp [go_sem]
  have bl0 : w.heap.size < ((((w.alloc (.cells #[.slice A' n' c'] 39)).alloc (.cells #[.int .i64 base, .int .i64 size, .int .i64 head, .int .i64 tail] 69)).alloc (.cells #[.slice none 0 0] 39)).alloc (.cells #[.int .i64 0, .int .i64 0, .int .i64 0, .int .i64 0] 69)).heap.size := by go_size
  have hk0 : Blk ((((w.alloc (.cells #[.slice A' n' c'] 39)).alloc (.cells #[.int .i64 base, .int .i64 size, .int .i64 head, .int .i64 tail] 69)).alloc (.cells #[.slice none 0 0] 39)).alloc (.cells #[.int .i64 0, .int .i64 0, .int .i64 0, .int .i64 0] 69)) (w.heap.size) 39 [.slice A' n' c'] := by simpa using (((Blk.new w 39 [.slice A' n' c']).alloc (.cells #[.int .i64 base, .int .i64 size, .int .i64 head, .int .i64 tail] 69)).alloc (.cells #[.slice none 0 0] 39)).alloc (.cells #[.int .i64 0, .int .i64 0, .int .i64 0, .int .i64 0] 69)
  have bx1_0 : ((((w.alloc (.cells #[.slice A' n' c'] 39)).alloc (.cells #[.int .i64 base, .int .i64 size, .int .i64 head, .int .i64 tail] 69)).alloc (.cells #[.slice none 0 0] 39)).alloc (.cells #[.int .i64 0, .int .i64 0, .int .i64 0, .int .i64 0] 69)).cell? ⟨w.heap.size + 1, 0, none⟩ = some (.int .i64 base) := by simp [go_sem]
  have bx1_1 : ((((w.alloc (.cells #[.slice A' n' c'] 39)).alloc (.cells #[.int .i64 base, .int .i64 size, .int .i64 head, .int .i64 tail] 69)).alloc (.cells #[.slice none 0 0] 39)).alloc (.cells #[.int .i64 0, .int .i64 0, .int .i64 0, .int .i64 0] 69)).cell? ⟨w.heap.size + 1, 1, none⟩ = some (.int .i64 size) := by simp [go_sem]
  have bx1_2 : ((((w.alloc (.cells #[.slice A' n' c'] 39)).alloc (.cells #[.int .i64 base, .int .i64 size, .int .i64 head, .int .i64 tail] 69)).alloc (.cells #[.slice none 0 0] 39)).alloc (.cells #[.int .i64 0, .int .i64 0, .int .i64 0, .int .i64 0] 69)).cell? ⟨w.heap.size + 1, 2, none⟩ = some (.int .i64 head) := by simp [go_sem]
  have bx1_3 : ((((w.alloc (.cells #[.slice A' n' c'] 39)).alloc (.cells #[.int .i64 base, .int .i64 size, .int .i64 head, .int .i64 tail] 69)).alloc (.cells #[.slice none 0 0] 39)).alloc (.cells #[.int .i64 0, .int .i64 0, .int .i64 0, .int .i64 0] 69)).cell? ⟨w.heap.size + 1, 3, none⟩ = some (.int .i64 tail) := by simp [go_sem]
  have bl1 : w.heap.size + 1 < ((((w.alloc (.cells #[.slice A' n' c'] 39)).alloc (.cells #[.int .i64 base, .int .i64 size, .int .i64 head, .int .i64 tail] 69)).alloc (.cells #[.slice none 0 0] 39)).alloc (.cells #[.int .i64 0, .int .i64 0, .int .i64 0, .int .i64 0] 69)).heap.size := by go_size
  have hk1 : Blk ((((w.alloc (.cells #[.slice A' n' c'] 39)).alloc (.cells #[.int .i64 base, .int .i64 size, .int .i64 head, .int .i64 tail] 69)).alloc (.cells #[.slice none 0 0] 39)).alloc (.cells #[.int .i64 0, .int .i64 0, .int .i64 0, .int .i64 0] 69)) (w.heap.size + 1) 69 [.int .i64 base, .int .i64 size, .int .i64 head, .int .i64 tail] := by simpa using ((Blk.new (w.alloc (.cells #[.slice A' n' c'] 39)) 69 [.int .i64 base, .int .i64 size, .int .i64 head, .int .i64 tail]).alloc (.cells #[.slice none 0 0] 39)).alloc (.cells #[.int .i64 0, .int .i64 0, .int .i64 0, .int .i64 0] 69)
  have bx2_0 : ((((w.alloc (.cells #[.slice A' n' c'] 39)).alloc (.cells #[.int .i64 base, .int .i64 size, .int .i64 head, .int .i64 tail] 69)).alloc (.cells #[.slice none 0 0] 39)).alloc (.cells #[.int .i64 0, .int .i64 0, .int .i64 0, .int .i64 0] 69)).cell? ⟨w.heap.size + 1 + 1, 0, none⟩ = some (.slice none 0 0) := by simp [go_sem]
  have bl2 : w.heap.size + 1 + 1 < ((((w.alloc (.cells #[.slice A' n' c'] 39)).alloc (.cells #[.int .i64 base, .int .i64 size, .int .i64 head, .int .i64 tail] 69)).alloc (.cells #[.slice none 0 0] 39)).alloc (.cells #[.int .i64 0, .int .i64 0, .int .i64 0, .int .i64 0] 69)).heap.size := by go_size
  have hk2 : Blk ((((w.alloc (.cells #[.slice A' n' c'] 39)).alloc (.cells #[.int .i64 base, .int .i64 size, .int .i64 head, .int .i64 tail] 69)).alloc (.cells #[.slice none 0 0] 39)).alloc (.cells #[.int .i64 0, .int .i64 0, .int .i64 0, .int .i64 0] 69)) (w.heap.size + 1 + 1) 39 [.slice none 0 0] := by simpa using (Blk.new ((w.alloc (.cells #[.slice A' n' c'] 39)).alloc (.cells #[.int .i64 base, .int .i64 size, .int .i64 head, .int .i64 tail] 69)) 39 [.slice none 0 0]).alloc (.cells #[.int .i64 0, .int .i64 0, .int .i64 0, .int .i64 0] 69)
  have bx3_0 : ((((w.alloc (.cells #[.slice A' n' c'] 39)).alloc (.cells #[.int .i64 base, .int .i64 size, .int .i64 head, .int .i64 tail] 69)).alloc (.cells #[.slice none 0 0] 39)).alloc (.cells #[.int .i64 0, .int .i64 0, .int .i64 0, .int .i64 0] 69)).cell? ⟨w.heap.size + 1 + 1 + 1, 0, none⟩ = some (.int .i64 0) := by simp [go_sem]
  have bx3_1 : ((((w.alloc (.cells #[.slice A' n' c'] 39)).alloc (.cells #[.int .i64 base, .int .i64 size, .int .i64 head, .int .i64 tail] 69)).alloc (.cells #[.slice none 0 0] 39)).alloc (.cells #[.int .i64 0, .int .i64 0, .int .i64 0, .int .i64 0] 69)).cell? ⟨w.heap.size + 1 + 1 + 1, 1, none⟩ = some (.int .i64 0) := by simp [go_sem]
  have bx3_2 : ((((w.alloc (.cells #[.slice A' n' c'] 39)).alloc (.cells #[.int .i64 base, .int .i64 size, .int .i64 head, .int .i64 tail] 69)).alloc (.cells #[.slice none 0 0] 39)).alloc (.cells #[.int .i64 0, .int .i64 0, .int .i64 0, .int .i64 0] 69)).cell? ⟨w.heap.size + 1 + 1 + 1, 2, none⟩ = some (.int .i64 0) := by simp [go_sem]
  have bx3_3 : ((((w.alloc (.cells #[.slice A' n' c'] 39)).alloc (.cells #[.int .i64 base, .int .i64 size, .int .i64 head, .int .i64 tail] 69)).alloc (.cells #[.slice none 0 0] 39)).alloc (.cells #[.int .i64 0, .int .i64 0, .int .i64 0, .int .i64 0] 69)).cell? ⟨w.heap.size + 1 + 1 + 1, 3, none⟩ = some (.int .i64 0) := by simp [go_sem]
  have bl3 : w.heap.size + 1 + 1 + 1 < ((((w.alloc (.cells #[.slice A' n' c'] 39)).alloc (.cells #[.int .i64 base, .int .i64 size, .int .i64 head, .int .i64 tail] 69)).alloc (.cells #[.slice none 0 0] 39)).alloc (.cells #[.int .i64 0, .int .i64 0, .int .i64 0, .int .i64 0] 69)).heap.size := by go_size
  have hk3 : Blk ((((w.alloc (.cells #[.slice A' n' c'] 39)).alloc (.cells #[.int .i64 base, .int .i64 size, .int .i64 head, .int .i64 tail] 69)).alloc (.cells #[.slice none 0 0] 39)).alloc (.cells #[.int .i64 0, .int .i64 0, .int .i64 0, .int .i64 0] 69)) (w.heap.size + 1 + 1 + 1) 69 [.int .i64 0, .int .i64 0, .int .i64 0, .int .i64 0] := by simpa using Blk.new (((w.alloc (.cells #[.slice A' n' c'] 39)).alloc (.cells #[.int .i64 base, .int .i64 size, .int .i64 head, .int .i64 tail] 69)).alloc (.cells #[.slice none 0 0] 39)) 69 [.int .i64 0, .int .i64 0, .int .i64 0, .int .i64 0]
  have r_a := r_a.below k0
  have r_b := r_b.below k0
  have p0 := k0.size
  generalize hW0 : ((((w.alloc (.cells #[.slice A' n' c'] 39)).alloc (.cells #[.int .i64 base, .int .i64 size, .int .i64 head, .int .i64 tail] 69)).alloc (.cells #[.slice none 0 0] 39)).alloc (.cells #[.int .i64 0, .int .i64 0, .int .i64 0, .int .i64 0] 69)) = w0 at *
  clear hW0
  have bx0_0 : w0.cell? ⟨w.heap.size, 0, none⟩ = some (.slice A' n' c') := (hk0.cell 0).trans rfl
  have fz0_0 := hk0.frozen 0
  have bx1_0 : w0.cell? ⟨w.heap.size + 1, 0, none⟩ = some (.int .i64 base) := (hk1.cell 0).trans rfl
  have fz1_0 := hk1.frozen 0
  have bx1_1 : w0.cell? ⟨w.heap.size + 1, 1, none⟩ = some (.int .i64 size) := (hk1.cell 1).trans rfl
  have fz1_1 := hk1.frozen 1
  have bx1_2 : w0.cell? ⟨w.heap.size + 1, 2, none⟩ = some (.int .i64 head) := (hk1.cell 2).trans rfl
  have fz1_2 := hk1.frozen 2
  have bx1_3 : w0.cell? ⟨w.heap.size + 1, 3, none⟩ = some (.int .i64 tail) := (hk1.cell 3).trans rfl
  have fz1_3 := hk1.frozen 3
  have bx2_0 : w0.cell? ⟨w.heap.size + 1 + 1, 0, none⟩ = some (.slice none 0 0) := (hk2.cell 0).trans rfl
  have fz2_0 := hk2.frozen 0
  have bx3_0 : w0.cell? ⟨w.heap.size + 1 + 1 + 1, 0, none⟩ = some (.int .i64 0) := (hk3.cell 0).trans rfl
  have fz3_0 := hk3.frozen 0
  have bx3_1 : w0.cell? ⟨w.heap.size + 1 + 1 + 1, 1, none⟩ = some (.int .i64 0) := (hk3.cell 1).trans rfl
  have fz3_1 := hk3.frozen 1
  have bx3_2 : w0.cell? ⟨w.heap.size + 1 + 1 + 1, 2, none⟩ = some (.int .i64 0) := (hk3.cell 2).trans rfl
  have fz3_2 := hk3.frozen 2
  have bx3_3 : w0.cell? ⟨w.heap.size + 1 + 1 + 1, 3, none⟩ = some (.int .i64 0) := (hk3.cell 3).trans rfl
  have fz3_3 := hk3.frozen 3
  refine (specRingFree_c _ _ _ _ _ hh ht).mono ?_
  rintro e w1 ⟨rfl, hb⟩
  have k1 : Below w.heap.size w w1 := ext_step k0 (by omega) hb
  have p1 := hb.size
  have hk0 := hk0.ext hb
  have hk1 := hk1.ext hb
  have hk2 := hk2.ext hb
  have hk3 := hk3.ext hb
  have bx0_0 : w1.cell? ⟨w.heap.size, 0, none⟩ = some (.slice A' n' c') := (hk0.cell 0).trans rfl
  have fz0_0 := hk0.frozen 0
  have bx1_0 : w1.cell? ⟨w.heap.size + 1, 0, none⟩ = some (.int .i64 base) := (hk1.cell 0).trans rfl
  have fz1_0 := hk1.frozen 0
  have bx1_1 : w1.cell? ⟨w.heap.size + 1, 1, none⟩ = some (.int .i64 size) := (hk1.cell 1).trans rfl
  have fz1_1 := hk1.frozen 1
  have bx1_2 : w1.cell? ⟨w.heap.size + 1, 2, none⟩ = some (.int .i64 head) := (hk1.cell 2).trans rfl
  have fz1_2 := hk1.frozen 2
  have bx1_3 : w1.cell? ⟨w.heap.size + 1, 3, none⟩ = some (.int .i64 tail) := (hk1.cell 3).trans rfl
  have fz1_3 := hk1.frozen 3
  have bx2_0 : w1.cell? ⟨w.heap.size + 1 + 1, 0, none⟩ = some (.slice none 0 0) := (hk2.cell 0).trans rfl
  have fz2_0 := hk2.frozen 0
  have bx3_0 : w1.cell? ⟨w.heap.size + 1 + 1 + 1, 0, none⟩ = some (.int .i64 0) := (hk3.cell 0).trans rfl
  have fz3_0 := hk3.frozen 0
  have bx3_1 : w1.cell? ⟨w.heap.size + 1 + 1 + 1, 1, none⟩ = some (.int .i64 0) := (hk3.cell 1).trans rfl
  have fz3_1 := hk3.frozen 1
  have bx3_2 : w1.cell? ⟨w.heap.size + 1 + 1 + 1, 2, none⟩ = some (.int .i64 0) := (hk3.cell 2).trans rfl
  have fz3_2 := hk3.frozen 2
  have bx3_3 : w1.cell? ⟨w.heap.size + 1 + 1 + 1, 3, none⟩ = some (.int .i64 0) := (hk3.cell 3).trans rfl
  have fz3_3 := hk3.frozen 3
  have bl0 := Nat.lt_of_lt_of_le bl0 hb.size
  have bl1 := Nat.lt_of_lt_of_le bl1 hb.size
  have bl2 := Nat.lt_of_lt_of_le bl2 hb.size
  have bl3 := Nat.lt_of_lt_of_le bl3 hb.size
  have r_a := r_a.below (hb.mono (by omega))
  have r_b := r_b.below (hb.mono (by omega))
  clear hb
  go_wp2_with fail
  refine wp_region_slotsS (w.heap.size) [(27, fun _ v => v = .slice A n c), (28, fun _ v => v = .agg #[.slice A' n' c']), (29, fun _ v => v = .int .i64 d), (30, fun _ v => v = .agg #[.int .i64 base, .int .i64 size, .int .i64 head, .int .i64 tail]), (31, fun _ v => v = .pointer (some ⟨w.heap.size + 1, 3, none⟩)), (32, fun _ v => v = .int .i64 tail), (33, fun _ v => v = .int .i64 (slotI base size head tail tail)), (34, fun _ v => v = .string s), (35, RowP w1.heap.size 9 1 n' ((dmaW l pg d (slotI base size head tail tail) s true).flatMap fun x : ByteArray => [Value.string x]) (fun A c => .tuple #[.agg #[.slice A n' c], .bool (dmaOk l pg d (slotI base size head tail tail) s.size true)])), (26, RowP w1.heap.size 9 1 n' ((dmaW l pg d (slotI base size head tail tail) s true).flatMap fun x : ByteArray => [Value.string x]) (fun A c => .tuple #[.agg #[.slice A n' c], .bool (dmaOk l pg d (slotI base size head tail tail) s.size true)])), (36, RowP w1.heap.size 9 1 n' ((dmaW l pg d (slotI base size head tail tail) s true).flatMap fun x : ByteArray => [Value.string x]) (fun A c => .agg #[.slice A n' c])), (37, fun _ v => v = .bool (dmaOk l pg d (slotI base size head tail tail) s.size true)), (13, BoxP w1.heap.size 39 1), (14, fun _ v => v = .bool (dmaOk l pg d (slotI base size head tail tail) s.size true))] [⟨13, 13, fun _ => True, StoR w1.heap.size 39 9 1 n' ((dmaW l pg d (slotI base size head tail tail) s true).flatMap fun x : ByteArray => [Value.string x]) (fun A c => [.slice A n' c])⟩] (fun u => Blk u (w.heap.size) 39 [.slice A' n' c'] ∧ Blk u (w.heap.size + 1) 69 [.int .i64 base, .int .i64 size, .int .i64 head, .int .i64 tail] ∧ Blk u (w.heap.size + 1 + 1) 39 [.slice none 0 0] ∧ Blk u (w.heap.size + 1 + 1 + 1) 69 [.int .i64 0, .int .i64 0, .int .i64 0, .int .i64 0]) (by kernel_rfl) (by omega) (by kernel_rfl) (by kernel_rfl) (by kernel_rfl) (by kernel_rfl) ?_ ?_ ?_ ?_ ?_ ?_ ?_
  · intro p hp
    simp only [List.mem_cons, List.not_mem_nil, or_false] at hp
    rcases hp with rfl | rfl | rfl | rfl | rfl | rfl | rfl | rfl | rfl | rfl | rfl | rfl | rfl | rfl
    all_goals (intro u u' v hb hv; first | exact hv | exact BoxP.keep hv hb | exact RowP.keep hv hb)
  · intro s hs u u' hb
    simp only [List.mem_cons, List.not_mem_nil, or_false] at hs
    rcases hs with rfl
    all_goals (refine ⟨fun h => ?_, fun _ h => ?_⟩ <;> first | exact h | exact StoP.keep h hb | exact StoR.keep h hb | exact Blk.ext h hb | exact StaR.keep h hb)
  · intro s hs
    simp only [List.mem_cons, List.not_mem_nil, or_false] at hs
    rcases hs with rfl
    all_goals first | trivial
  · exact ⟨hk0, hk1, hk2, hk3⟩
  · intro u u' hb hj
    obtain ⟨j0, j1, j2, j3⟩ := hj
    exact ⟨(j0.ext hb), (j1.ext hb), (j2.ext hb), (j3.ext hb)⟩
  · intro hGk hSk hJk
    refine allStep_cons (stepS_plain hGk hSk (by omega) hJk (by kernel_rfl) rfl ?_) ?_
    · intro a u hb hz hj hl hp K Q hK
      have e0 : a.tmps[0]?.getD undef = .slice A n c := gd (hl 0 (by kernel_rfl))
      go_simp
      exact hK _ _ (Below.refl _ _) (by intro d hd; cases hd; exact rfl)
    refine allStep_cons (stepS_plain hGk hSk (by omega) hJk (by kernel_rfl) rfl ?_) ?_
    · intro a u hb hz hj hl hp K Q hK
      have e6 : a.tmps[6]?.getD undef = .pointer (some ⟨w.heap.size, 0, none⟩) := gd (hl 6 (by kernel_rfl))
      obtain ⟨j0, j1, j2, j3⟩ := hj
      have hBb := j0
      have gb0 : u.cell? ⟨w.heap.size, 0, none⟩ = some (.slice A' n' c') := (hBb.cell 0).trans rfl
      go_simp
      exact hK _ _ (Below.refl _ _) (by intro d hd; cases hd; exact rfl)
    refine allStep_cons (stepS_plain hGk hSk (by omega) hJk (by kernel_rfl) rfl ?_) ?_
    · intro a u hb hz hj hl hp K Q hK
      have e2 : a.tmps[2]?.getD undef = .int .i64 d := gd (hl 2 (by kernel_rfl))
      go_simp
      exact hK _ _ (Below.refl _ _) (by intro d hd; cases hd; exact rfl)
    refine allStep_cons (stepS_plain hGk hSk (by omega) hJk (by kernel_rfl) rfl ?_) ?_
    · intro a u hb hz hj hl hp K Q hK
      have e8 : a.tmps[8]?.getD undef = .pointer (some ⟨w.heap.size + 1, 0, none⟩) := gd (hl 8 (by kernel_rfl))
      obtain ⟨j0, j1, j2, j3⟩ := hj
      have hBb := j1
      have gb0 : u.cell? ⟨w.heap.size + 1, 0, none⟩ = some (.int .i64 base) := (hBb.cell 0).trans rfl
      have gb1 : u.cell? ⟨w.heap.size + 1, 1, none⟩ = some (.int .i64 size) := (hBb.cell 1).trans rfl
      have gb2 : u.cell? ⟨w.heap.size + 1, 2, none⟩ = some (.int .i64 head) := (hBb.cell 2).trans rfl
      have gb3 : u.cell? ⟨w.heap.size + 1, 3, none⟩ = some (.int .i64 tail) := (hBb.cell 3).trans rfl
      go_simp
      exact hK _ _ (Below.refl _ _) (by intro d hd; cases hd; exact rfl)
    refine allStep_cons (stepS_plain hGk hSk (by omega) hJk (by kernel_rfl) rfl ?_) ?_
    · intro a u hb hz hj hl hp K Q hK
      have e8 : a.tmps[8]?.getD undef = .pointer (some ⟨w.heap.size + 1, 0, none⟩) := gd (hl 8 (by kernel_rfl))
      go_simp
      exact hK _ _ (Below.refl _ _) (by intro d hd; cases hd; exact rfl)
    refine allStep_cons (stepS_plain hGk hSk (by omega) hJk (by kernel_rfl) rfl ?_) ?_
    · intro a u hb hz hj hl hp K Q hK
      have e31 : a.tmps[31]?.getD undef = .pointer (some ⟨w.heap.size + 1, 3, none⟩) := gd (hl 31 (by kernel_rfl))
      obtain ⟨j0, j1, j2, j3⟩ := hj
      have hBb := j1
      have gb3 : u.cell? ⟨w.heap.size + 1, 3, none⟩ = some (.int .i64 tail) := (hBb.cell 3).trans rfl
      go_simp
      exact hK _ _ (Below.refl _ _) (by intro d hd; cases hd; exact rfl)
    refine allStep_cons (stepS_plain hGk hSk (by omega) hJk (by kernel_rfl) rfl ?_) ?_
    · intro a u hb hz hj hl hp K Q hK
      have e30 : a.tmps[30]?.getD undef = .agg #[.int .i64 base, .int .i64 size, .int .i64 head, .int .i64 tail] := gd (hl 30 (by kernel_rfl))
      have e32 : a.tmps[32]?.getD undef = .int .i64 tail := gd (hl 32 (by kernel_rfl))
      go_simp
      refine (specSlotAddress_c _ _ _ _ _ _ hh ht ht).mono ?_
      rintro e u1 ⟨rfl, hb1⟩
      exact hK _ _ hb1 (by intro d hd; cases hd; exact rfl)
    refine allStep_cons (stepS_plain hGk hSk (by omega) hJk (by kernel_rfl) rfl ?_) ?_
    · intro a u hb hz hj hl hp K Q hK
      have e4 : a.tmps[4]?.getD undef = .string s := gd (hl 4 (by kernel_rfl))
      go_simp
      exact hK _ _ (Below.refl _ _) (by intro d hd; cases hd; exact rfl)
    refine allStep_cons (stepS_plain hGk hSk (by omega) hJk (by kernel_rfl) rfl ?_) ?_
    · intro a u hb hz hj hl hp K Q hK
      have e27 : a.tmps[27]?.getD undef = .slice A n c := gd (hl 27 (by kernel_rfl))
      have e28 : a.tmps[28]?.getD undef = .agg #[.slice A' n' c'] := gd (hl 28 (by kernel_rfl))
      have e29 : a.tmps[29]?.getD undef = .int .i64 d := gd (hl 29 (by kernel_rfl))
      have e33 : a.tmps[33]?.getD undef = .int .i64 (slotI base size head tail tail) := gd (hl 33 (by kernel_rfl))
      have e34 : a.tmps[34]?.getD undef = .string s := gd (hl 34 (by kernel_rfl))
      go_simp
      refine (specDmaWrite_c _ _ _ _ _ _ l pg _ hn_a hn_b hs_a hs_b ((r_a.below (hb.mono (by omega))).more (by omega)) ((r_b.below (hb.mono (by omega))).more (by omega)) _ _ _ hI1 hsz).mono ?_
      rintro e u1 ⟨A_v, c_v, rfl, o_v, hb1⟩
      exact hK _ _ hb1 (by intro d hd; cases hd; exact ⟨A_v, c_v, rfl, own_base o_v (by omega)⟩)
    refine allStep_cons (stepS_plain hGk hSk (by omega) hJk (by kernel_rfl) rfl ?_) ?_
    · intro a u hb hz hj hl hp K Q hK
      obtain ⟨A1, c1, ex35, o1⟩ : RowP w1.heap.size 9 1 n' ((dmaW l pg d (slotI base size head tail tail) s true).flatMap fun x : ByteArray => [Value.string x]) (fun A c => .tuple #[.agg #[.slice A n' c], .bool (dmaOk l pg d (slotI base size head tail tail) s.size true)]) u (a.tmps.getD 35 undef) := hl 35 (by kernel_rfl)
      have e35 := gd ex35
      go_simp
      exact hK _ _ (Below.refl _ _) (by intro d hd; cases hd; exact ⟨A1, c1, rfl, o1⟩)
    refine allStep_cons (stepS_plain hGk hSk (by omega) hJk (by kernel_rfl) rfl ?_) ?_
    · intro a u hb hz hj hl hp K Q hK
      obtain ⟨A1, c1, ex26, o1⟩ : RowP w1.heap.size 9 1 n' ((dmaW l pg d (slotI base size head tail tail) s true).flatMap fun x : ByteArray => [Value.string x]) (fun A c => .tuple #[.agg #[.slice A n' c], .bool (dmaOk l pg d (slotI base size head tail tail) s.size true)]) u (a.tmps.getD 26 undef) := hl 26 (by kernel_rfl)
      have e26 := gd ex26
      go_simp
      exact hK _ _ (Below.refl _ _) (by intro d hd; cases hd; exact ⟨A1, c1, rfl, o1⟩)
    refine allStep_cons (stepS_plain hGk hSk (by omega) hJk (by kernel_rfl) rfl ?_) ?_
    · intro a u hb hz hj hl hp K Q hK
      obtain ⟨A1, c1, ex26, o1⟩ : RowP w1.heap.size 9 1 n' ((dmaW l pg d (slotI base size head tail tail) s true).flatMap fun x : ByteArray => [Value.string x]) (fun A c => .tuple #[.agg #[.slice A n' c], .bool (dmaOk l pg d (slotI base size head tail tail) s.size true)]) u (a.tmps.getD 26 undef) := hl 26 (by kernel_rfl)
      have e26 := gd ex26
      go_simp
      exact hK _ _ (Below.refl _ _) (by intro d hd; cases hd; exact rfl)
    refine allStep_cons (stepS_plain hGk hSk (by omega) hJk (by kernel_rfl) rfl ?_) ?_
    · intro a u hb hz hj hl hp K Q hK
      go_simp
      exact hK _ _ (by go_grown) (by intro d hd; cases hd; exact BoxP.new _ _ [.slice none 0 0] (by omega) rfl)
    refine allStep_cons (stepS_store (Chg w1.heap.size 39) (fun _ _ hc hb => hc.below' (by omega) hb) (fun _ _ hc => hc.size) (hold_rel ?_) ?_ ?_ rfl rfl ?_) ?_
    · intro p hp
      simp only [List.mem_cons, List.not_mem_nil, or_false] at hp
      rcases hp with rfl | rfl | rfl | rfl | rfl | rfl | rfl | rfl | rfl | rfl | rfl | rfl | rfl | rfl
      all_goals (intro u u' v hb hv; first | exact hv | exact BoxP.chg hv hb | exact RowP.chg hv hb (by decide))
    · intro s hs hne u u' hb
      simp only [List.mem_cons, List.not_mem_nil, or_false] at hs
      rcases hs with rfl
      all_goals first | exact absurd (by rfl) hne | (refine ⟨fun h => ?_, fun _ h => ?_⟩ <;> first | exact h | exact StoP.chg h hb (by decide) | exact StoR.chg h hb (by decide) (by decide) | exact Blk.chgL h hb (by omega) | exact StaR.chgL h hb (by omega) (by decide))
    · intro u u' hb hj
      obtain ⟨j0, j1, j2, j3⟩ := hj
      exact ⟨(j0.chgL hb (by omega)), (j1.chgL hb (by omega)), (j2.chgL hb (by omega)), (j3.chgL hb (by omega))⟩
    · intro a u hb hz hj hl hp K Q hK
      obtain ⟨b, exb, hB, zs, hzl, hbk⟩ : BoxP w1.heap.size 39 1 u (a.tmps.getD 13 undef) := hl 13 (by kernel_rfl)
      have e13 := gd exb
      obtain ⟨A2, c2, ex36, o2⟩ : RowP w1.heap.size 9 1 n' ((dmaW l pg d (slotI base size head tail tail) s true).flatMap fun x : ByteArray => [Value.string x]) (fun A c => .agg #[.slice A n' c]) u (a.tmps.getD 36 undef) := hl 36 (by kernel_rfl)
      have e36 := gd ex36
      obtain ⟨z0, rfl⟩ : ∃ z0, zs = [z0] := (by match zs, hzl with | [z0], _ => exact ⟨_, rfl⟩)
      have hlt := hbk.lt
      have g0 : u.cell? ⟨b, 0, none⟩ = some z0 := (hbk.cell 0).trans rfl
      have f0 := hbk.frozen 0
      go_simp
      refine hK undef _ ((Chg.refl _ _ _).set hbk hB 0 _) (fun s hs he => ?_)
      simp only [List.mem_cons, List.not_mem_nil, or_false] at hs
      rcases hs with rfl
      · exact ⟨b, A2, c2, exb, hB, (hbk.set_ 0 _), own_chg o2 ((Chg.refl _ _ _).set hbk hB 0 _) (by decide)⟩
    refine allStep_cons (stepS_plain hGk hSk (by omega) hJk (by kernel_rfl) rfl ?_) ?_
    · intro a u hb hz hj hl hp K Q hK
      have e37 : a.tmps[37]?.getD undef = .bool (dmaOk l pg d (slotI base size head tail tail) s.size true) := gd (hl 37 (by kernel_rfl))
      go_simp
      exact hK _ _ (Below.refl _ _) (by intro d hd; cases hd; exact rfl)
    exact allStep_nil
  intro x w2 hb hz hj hL hSt
  obtain ⟨hk0, hk1, hk2, hk3⟩ := hj
  have fx14 : x 14 = .bool (dmaOk l pg d (slotI base size head tail tail) s.size true) := hL _ (List.mem_of_getElem? (i := 13) rfl)
  obtain ⟨bk_4, A_v, c_v, fx13, lo4, hk4, o_v⟩ : StoR w1.heap.size 39 9 1 n' ((dmaW l pg d (slotI base size head tail tail) s true).flatMap fun x : ByteArray => [Value.string x]) (fun A c => [.slice A n' c]) w2 (x 13) := hSt _ (List.mem_of_getElem? (i := 0) rfl)
  simp only [List.map, putAll, fx14, fx13]
  have bl4 := hk4.lt
  have k2 : Below w.heap.size w w2 := k1.trans hb
  have p2 : w1.heap.size ≤ w2.heap.size := hb.size
  have bl0 := Nat.lt_of_lt_of_le bl0 hb.size
  have bl1 := Nat.lt_of_lt_of_le bl1 hb.size
  have bl2 := Nat.lt_of_lt_of_le bl2 hb.size
  have bl3 := Nat.lt_of_lt_of_le bl3 hb.size
  have r_a := r_a.below hb
  have r_b := r_b.below hb
  have nb_v_4 := own_ty o_v hk4 (by decide)
  have r_v := Reads.of_own o_v
  have u_v := fun k hk => (o_v.lt k hk).2
  have bx0_0 : w2.cell? ⟨w.heap.size, 0, none⟩ = some (.slice A' n' c') := (hk0.cell 0).trans rfl
  have fz0_0 := hk0.frozen 0
  have bx1_0 : w2.cell? ⟨w.heap.size + 1, 0, none⟩ = some (.int .i64 base) := (hk1.cell 0).trans rfl
  have fz1_0 := hk1.frozen 0
  have bx1_1 : w2.cell? ⟨w.heap.size + 1, 1, none⟩ = some (.int .i64 size) := (hk1.cell 1).trans rfl
  have fz1_1 := hk1.frozen 1
  have bx1_2 : w2.cell? ⟨w.heap.size + 1, 2, none⟩ = some (.int .i64 head) := (hk1.cell 2).trans rfl
  have fz1_2 := hk1.frozen 2
  have bx1_3 : w2.cell? ⟨w.heap.size + 1, 3, none⟩ = some (.int .i64 tail) := (hk1.cell 3).trans rfl
  have fz1_3 := hk1.frozen 3
  have bx2_0 : w2.cell? ⟨w.heap.size + 1 + 1, 0, none⟩ = some (.slice none 0 0) := (hk2.cell 0).trans rfl
  have fz2_0 := hk2.frozen 0
  have bx3_0 : w2.cell? ⟨w.heap.size + 1 + 1 + 1, 0, none⟩ = some (.int .i64 0) := (hk3.cell 0).trans rfl
  have fz3_0 := hk3.frozen 0
  have bx3_1 : w2.cell? ⟨w.heap.size + 1 + 1 + 1, 1, none⟩ = some (.int .i64 0) := (hk3.cell 1).trans rfl
  have fz3_1 := hk3.frozen 1
  have bx3_2 : w2.cell? ⟨w.heap.size + 1 + 1 + 1, 2, none⟩ = some (.int .i64 0) := (hk3.cell 2).trans rfl
  have fz3_2 := hk3.frozen 2
  have bx3_3 : w2.cell? ⟨w.heap.size + 1 + 1 + 1, 3, none⟩ = some (.int .i64 0) := (hk3.cell 3).trans rfl
  have fz3_3 := hk3.frozen 3
  have bx4_0 : w2.cell? ⟨bk_4, 0, none⟩ = some (.slice A_v n' c_v) := (hk4.cell 0).trans rfl
  have fz4_0 := hk4.frozen 0
  clear hL hSt hb hz fx14 fx13
  rw [HD.out]
  go_wp2_with fail
  have hc : ChgA (w.heap.size + 1) w2 (w2.setCell ⟨w.heap.size + 1, 3, none⟩ (.int .i64 ((tail + 1) % (2 * size)))) := (ChgA.refl _ _).set _ _
  have hk0 := hk0.chgA hc (by omega)
  have hk2 := hk2.chgA hc (by omega)
  have hk3 := hk3.chgA hc (by omega)
  have hk4 := hk4.chgA hc (by omega)
  have hk1 : Blk (w2.setCell ⟨w.heap.size + 1, 3, none⟩ (.int .i64 ((tail + 1) % (2 * size)))) (w.heap.size + 1) 69 [.int .i64 base, .int .i64 size, .int .i64 head, .int .i64 ((tail + 1) % (2 * size))] := hk1.set_ 3 _
  have k3 : Below w.heap.size w (w2.setCell ⟨w.heap.size + 1, 3, none⟩ (.int .i64 ((tail + 1) % (2 * size)))) := hc.below (by omega) k2
  have p3 : (w2.setCell ⟨w.heap.size + 1, 3, none⟩ (.int .i64 ((tail + 1) % (2 * size)))).heap.size = w2.heap.size := hc.size
  have bl0 := Nat.lt_of_lt_of_le bl0 (Nat.le_of_eq p3.symm)
  have bl1 := Nat.lt_of_lt_of_le bl1 (Nat.le_of_eq p3.symm)
  have bl2 := Nat.lt_of_lt_of_le bl2 (Nat.le_of_eq p3.symm)
  have bl3 := Nat.lt_of_lt_of_le bl3 (Nat.le_of_eq p3.symm)
  have bl4 := Nat.lt_of_lt_of_le bl4 (Nat.le_of_eq p3.symm)
  have r_a := r_a.below (hc.below (by omega) (Below.refl _ _))
  have r_b := r_b.below (hc.below (by omega) (Below.refl _ _))
  have o_v := own_chgA o_v hc (fun k hk => by have h1 := o_v.lt k hk; omega)
  have r_v := Reads.of_own o_v
  generalize hW0 : (w2.setCell ⟨w.heap.size + 1, 3, none⟩ (.int .i64 ((tail + 1) % (2 * size)))) = w3 at *
  clear hW0 hc
  have bx0_0 : w3.cell? ⟨w.heap.size, 0, none⟩ = some (.slice A' n' c') := (hk0.cell 0).trans rfl
  have fz0_0 := hk0.frozen 0
  have bx1_0 : w3.cell? ⟨w.heap.size + 1, 0, none⟩ = some (.int .i64 base) := (hk1.cell 0).trans rfl
  have fz1_0 := hk1.frozen 0
  have bx1_1 : w3.cell? ⟨w.heap.size + 1, 1, none⟩ = some (.int .i64 size) := (hk1.cell 1).trans rfl
  have fz1_1 := hk1.frozen 1
  have bx1_2 : w3.cell? ⟨w.heap.size + 1, 2, none⟩ = some (.int .i64 head) := (hk1.cell 2).trans rfl
  have fz1_2 := hk1.frozen 2
  have bx1_3 : w3.cell? ⟨w.heap.size + 1, 3, none⟩ = some (.int .i64 ((tail + 1) % (2 * size))) := (hk1.cell 3).trans rfl
  have fz1_3 := hk1.frozen 3
  have bx2_0 : w3.cell? ⟨w.heap.size + 1 + 1, 0, none⟩ = some (.slice none 0 0) := (hk2.cell 0).trans rfl
  have fz2_0 := hk2.frozen 0
  have bx3_0 : w3.cell? ⟨w.heap.size + 1 + 1 + 1, 0, none⟩ = some (.int .i64 0) := (hk3.cell 0).trans rfl
  have fz3_0 := hk3.frozen 0
  have bx3_1 : w3.cell? ⟨w.heap.size + 1 + 1 + 1, 1, none⟩ = some (.int .i64 0) := (hk3.cell 1).trans rfl
  have fz3_1 := hk3.frozen 1
  have bx3_2 : w3.cell? ⟨w.heap.size + 1 + 1 + 1, 2, none⟩ = some (.int .i64 0) := (hk3.cell 2).trans rfl
  have fz3_2 := hk3.frozen 2
  have bx3_3 : w3.cell? ⟨w.heap.size + 1 + 1 + 1, 3, none⟩ = some (.int .i64 0) := (hk3.cell 3).trans rfl
  have fz3_3 := hk3.frozen 3
  have bx4_0 : w3.cell? ⟨bk_4, 0, none⟩ = some (.slice A_v n' c_v) := (hk4.cell 0).trans rfl
  have fz4_0 := hk4.frozen 0
  refine wp_region_slotsS (w.heap.size) [(51, fun _ v => v = .agg #[.slice A_v n' c_v]), (52, fun _ v => v = .agg #[.int .i64 base, .int .i64 size, .int .i64 head, .int .i64 ((tail + 1) % (2 * size))]), (12, fun _ v => v = .bool true)] [⟨2, 51, fun u => Blk u (w.heap.size + 1 + 1) 39 [.slice none 0 0], fun u _ => Blk u (w.heap.size + 1 + 1) 39 [.slice A_v n' c_v]⟩, ⟨3, 52, fun u => Blk u (w.heap.size + 1 + 1 + 1) 69 [.int .i64 0, .int .i64 0, .int .i64 0, .int .i64 0], fun u _ => Blk u (w.heap.size + 1 + 1 + 1) 69 [.int .i64 base, .int .i64 size, .int .i64 head, .int .i64 ((tail + 1) % (2 * size))]⟩] (fun u => Blk u (w.heap.size) 39 [.slice A' n' c'] ∧ Blk u (w.heap.size + 1) 69 [.int .i64 base, .int .i64 size, .int .i64 head, .int .i64 ((tail + 1) % (2 * size))] ∧ Blk u (bk_4) 39 [.slice A_v n' c_v] ∧ u.ownsRow (w1.heap.size) 9 1 (.slice A_v n' c_v) n' ((dmaW l pg d (slotI base size head tail tail) s true).flatMap fun x : ByteArray => [Value.string x])) (by kernel_rfl) (by omega) (by kernel_rfl) (by kernel_rfl) (by kernel_rfl) (by kernel_rfl) ?_ ?_ ?_ ?_ ?_ ?_ ?_
  · intro p hp
    simp only [List.mem_cons, List.not_mem_nil, or_false] at hp
    rcases hp with rfl | rfl | rfl
    all_goals (intro u u' v hb hv; first | exact hv | exact BoxP.keep hv hb | exact RowP.keep hv hb)
  · intro s hs u u' hb
    simp only [List.mem_cons, List.not_mem_nil, or_false] at hs
    rcases hs with rfl | rfl
    all_goals (refine ⟨fun h => ?_, fun _ h => ?_⟩ <;> first | exact h | exact StoP.keep h hb | exact StoR.keep h hb | exact Blk.ext h hb | exact StaR.keep h hb)
  · intro s hs
    simp only [List.mem_cons, List.not_mem_nil, or_false] at hs
    rcases hs with rfl | rfl
    all_goals first | trivial | exact hk2 | exact hk3
  · exact ⟨hk0, hk1, hk4, o_v⟩
  · intro u u' hb hj
    obtain ⟨j0, j1, j2, j3⟩ := hj
    exact ⟨(j0.ext hb), (j1.ext hb), (j2.ext hb), (own_ext j3 hb)⟩
  · intro hGk hSk hJk
    refine allStep_cons (stepS_plain hGk hSk (by omega) hJk (by kernel_rfl) rfl ?_) ?_
    · intro a u hb hz hj hl hp K Q hK
      have e13 : a.tmps[13]?.getD undef = .pointer (some ⟨bk_4, 0, none⟩) := gd (hl 13 (by kernel_rfl))
      obtain ⟨j0, j1, j2, j3⟩ := hj
      have hBb := j2
      have gb0 : u.cell? ⟨bk_4, 0, none⟩ = some (.slice A_v n' c_v) := (hBb.cell 0).trans rfl
      go_simp
      exact hK _ _ (Below.refl _ _) (by intro d hd; cases hd; exact rfl)
    refine allStep_cons (stepS_plain hGk hSk (by omega) hJk (by kernel_rfl) rfl ?_) ?_
    · intro a u hb hz hj hl hp K Q hK
      have e8 : a.tmps[8]?.getD undef = .pointer (some ⟨w.heap.size + 1, 0, none⟩) := gd (hl 8 (by kernel_rfl))
      obtain ⟨j0, j1, j2, j3⟩ := hj
      have hBb := j1
      have gb0 : u.cell? ⟨w.heap.size + 1, 0, none⟩ = some (.int .i64 base) := (hBb.cell 0).trans rfl
      have gb1 : u.cell? ⟨w.heap.size + 1, 1, none⟩ = some (.int .i64 size) := (hBb.cell 1).trans rfl
      have gb2 : u.cell? ⟨w.heap.size + 1, 2, none⟩ = some (.int .i64 head) := (hBb.cell 2).trans rfl
      have gb3 : u.cell? ⟨w.heap.size + 1, 3, none⟩ = some (.int .i64 ((tail + 1) % (2 * size))) := (hBb.cell 3).trans rfl
      go_simp
      exact hK _ _ (Below.refl _ _) (by intro d hd; cases hd; exact rfl)
    refine allStep_cons (stepS_store (ChgA (w.heap.size + 1 + 1)) (fun _ _ hc hb => hc.below (by omega) hb) (fun _ _ hc => hc.size) (hold_rel ?_) ?_ ?_ rfl rfl ?_) ?_
    · intro p hp
      simp only [List.mem_cons, List.not_mem_nil, or_false] at hp
      rcases hp with rfl | rfl | rfl
      all_goals (intro u u' v hb hv; first | exact hv | exact BoxP.chgA hv hb (by omega) | exact RowP.chgA hv hb (by omega))
    · intro s hs hne u u' hb
      simp only [List.mem_cons, List.not_mem_nil, or_false] at hs
      rcases hs with rfl | rfl
      all_goals first | exact absurd (by rfl) hne | (refine ⟨fun h => ?_, fun _ h => ?_⟩ <;> first | exact h | exact Blk.chgA h hb (by omega) | exact StoP.chgA h hb (by omega) | exact StoR.chgA h hb (by omega) | exact StaR.chgA h hb (by omega) (by omega))
    · intro u u' hb hj
      obtain ⟨j0, j1, j2, j3⟩ := hj
      exact ⟨(j0.chgA hb (by omega)), (j1.chgA hb (by omega)), (j2.chgA hb (by omega)), (own_chgA j3 hb (fun k hk => by have h1 := o_v.lt k hk; omega))⟩
    · intro a u hb hz hj hl hp K Q hK
      have e10 : a.tmps[10]?.getD undef = .pointer (some ⟨w.heap.size + 1 + 1, 0, none⟩) := gd (hl 10 (by kernel_rfl))
      have hBs : Blk u (w.heap.size + 1 + 1) 39 [.slice none 0 0] := hp _ (List.mem_of_getElem? (i := 0) rfl) (by kernel_rfl)
      have gs0 : u.cell? ⟨w.heap.size + 1 + 1, 0, none⟩ = some (.slice none 0 0) := (hBs.cell 0).trans rfl
      have f0 := hBs.frozen 0
      have e51 : a.tmps[51]?.getD undef = .agg #[.slice A_v n' c_v] := gd (hl 51 (by kernel_rfl))
      go_simp
      refine hK undef _ ((ChgA.refl _ _).set 0 _) (fun s hs he => ?_)
      simp only [List.mem_cons, List.not_mem_nil, or_false] at hs
      rcases hs with rfl | rfl
      · exact (hBs.set_ 0 _)
      · exact absurd (show (3 : Nat) = 2 from he) (by decide)
    refine allStep_cons (stepS_store (ChgA (w.heap.size + 1 + 1 + 1)) (fun _ _ hc hb => hc.below (by omega) hb) (fun _ _ hc => hc.size) (hold_rel ?_) ?_ ?_ rfl rfl ?_) ?_
    · intro p hp
      simp only [List.mem_cons, List.not_mem_nil, or_false] at hp
      rcases hp with rfl | rfl | rfl
      all_goals (intro u u' v hb hv; first | exact hv | exact BoxP.chgA hv hb (by omega) | exact RowP.chgA hv hb (by omega))
    · intro s hs hne u u' hb
      simp only [List.mem_cons, List.not_mem_nil, or_false] at hs
      rcases hs with rfl | rfl
      all_goals first | exact absurd (by rfl) hne | (refine ⟨fun h => ?_, fun _ h => ?_⟩ <;> first | exact h | exact Blk.chgA h hb (by omega) | exact StoP.chgA h hb (by omega) | exact StoR.chgA h hb (by omega) | exact StaR.chgA h hb (by omega) (by omega))
    · intro u u' hb hj
      obtain ⟨j0, j1, j2, j3⟩ := hj
      exact ⟨(j0.chgA hb (by omega)), (j1.chgA hb (by omega)), (j2.chgA hb (by omega)), (own_chgA j3 hb (fun k hk => by have h1 := o_v.lt k hk; omega))⟩
    · intro a u hb hz hj hl hp K Q hK
      have e11 : a.tmps[11]?.getD undef = .pointer (some ⟨w.heap.size + 1 + 1 + 1, 0, none⟩) := gd (hl 11 (by kernel_rfl))
      have hBs : Blk u (w.heap.size + 1 + 1 + 1) 69 [.int .i64 0, .int .i64 0, .int .i64 0, .int .i64 0] := hp _ (List.mem_of_getElem? (i := 1) rfl) (by kernel_rfl)
      have gs0 : u.cell? ⟨w.heap.size + 1 + 1 + 1, 0, none⟩ = some (.int .i64 0) := (hBs.cell 0).trans rfl
      have gs1 : u.cell? ⟨w.heap.size + 1 + 1 + 1, 1, none⟩ = some (.int .i64 0) := (hBs.cell 1).trans rfl
      have gs2 : u.cell? ⟨w.heap.size + 1 + 1 + 1, 2, none⟩ = some (.int .i64 0) := (hBs.cell 2).trans rfl
      have gs3 : u.cell? ⟨w.heap.size + 1 + 1 + 1, 3, none⟩ = some (.int .i64 0) := (hBs.cell 3).trans rfl
      have f0 := hBs.frozen 0
      have f1 := hBs.frozen 1
      have f2 := hBs.frozen 2
      have f3 := hBs.frozen 3
      have e52 : a.tmps[52]?.getD undef = .agg #[.int .i64 base, .int .i64 size, .int .i64 head, .int .i64 ((tail + 1) % (2 * size))] := gd (hl 52 (by kernel_rfl))
      go_simp
      refine hK undef _ (((((ChgA.refl _ _).set 0 _).set 1 _).set 2 _).set 3 _) (fun s hs he => ?_)
      simp only [List.mem_cons, List.not_mem_nil, or_false] at hs
      rcases hs with rfl | rfl
      · exact absurd (show (2 : Nat) = 3 from he) (by decide)
      · exact ((((hBs.set_ 0 _).set_ 1 _).set_ 2 _).set_ 3 _)
    refine allStep_cons (stepS_plain hGk hSk (by omega) hJk (by kernel_rfl) rfl ?_) ?_
    · intro a u hb hz hj hl hp K Q hK
      go_simp
      exact hK _ _ (Below.refl _ _) (by intro d hd; cases hd; exact rfl)
    exact allStep_nil
  intro x w4 hb hz hj hL hSt
  obtain ⟨hk0, hk1, hk4, o_v⟩ := hj
  have fx12 : x 12 = .bool true := hL _ (List.mem_of_getElem? (i := 2) rfl)
  have hk2 : Blk w4 (w.heap.size + 1 + 1) 39 [.slice A_v n' c_v] := hSt _ (List.mem_of_getElem? (i := 0) rfl)
  have hk3 : Blk w4 (w.heap.size + 1 + 1 + 1) 69 [.int .i64 base, .int .i64 size, .int .i64 head, .int .i64 ((tail + 1) % (2 * size))] := hSt _ (List.mem_of_getElem? (i := 1) rfl)
  simp only [List.map, putAll, fx12]
  have k4 : Below w.heap.size w w4 := k3.trans hb
  have p4 : w3.heap.size ≤ w4.heap.size := hb.size
  have bl0 := Nat.lt_of_lt_of_le bl0 hb.size
  have bl1 := Nat.lt_of_lt_of_le bl1 hb.size
  have bl2 := Nat.lt_of_lt_of_le bl2 hb.size
  have bl3 := Nat.lt_of_lt_of_le bl3 hb.size
  have bl4 := Nat.lt_of_lt_of_le bl4 hb.size
  have r_a := r_a.below hb
  have r_b := r_b.below hb
  have r_v := Reads.of_own o_v
  have bx0_0 : w4.cell? ⟨w.heap.size, 0, none⟩ = some (.slice A' n' c') := (hk0.cell 0).trans rfl
  have fz0_0 := hk0.frozen 0
  have bx1_0 : w4.cell? ⟨w.heap.size + 1, 0, none⟩ = some (.int .i64 base) := (hk1.cell 0).trans rfl
  have fz1_0 := hk1.frozen 0
  have bx1_1 : w4.cell? ⟨w.heap.size + 1, 1, none⟩ = some (.int .i64 size) := (hk1.cell 1).trans rfl
  have fz1_1 := hk1.frozen 1
  have bx1_2 : w4.cell? ⟨w.heap.size + 1, 2, none⟩ = some (.int .i64 head) := (hk1.cell 2).trans rfl
  have fz1_2 := hk1.frozen 2
  have bx1_3 : w4.cell? ⟨w.heap.size + 1, 3, none⟩ = some (.int .i64 ((tail + 1) % (2 * size))) := (hk1.cell 3).trans rfl
  have fz1_3 := hk1.frozen 3
  have bx2_0 : w4.cell? ⟨w.heap.size + 1 + 1, 0, none⟩ = some (.slice A_v n' c_v) := (hk2.cell 0).trans rfl
  have fz2_0 := hk2.frozen 0
  have bx3_0 : w4.cell? ⟨w.heap.size + 1 + 1 + 1, 0, none⟩ = some (.int .i64 base) := (hk3.cell 0).trans rfl
  have fz3_0 := hk3.frozen 0
  have bx3_1 : w4.cell? ⟨w.heap.size + 1 + 1 + 1, 1, none⟩ = some (.int .i64 size) := (hk3.cell 1).trans rfl
  have fz3_1 := hk3.frozen 1
  have bx3_2 : w4.cell? ⟨w.heap.size + 1 + 1 + 1, 2, none⟩ = some (.int .i64 head) := (hk3.cell 2).trans rfl
  have fz3_2 := hk3.frozen 2
  have bx3_3 : w4.cell? ⟨w.heap.size + 1 + 1 + 1, 3, none⟩ = some (.int .i64 ((tail + 1) % (2 * size))) := (hk3.cell 3).trans rfl
  have fz3_3 := hk3.frozen 3
  have bx4_0 : w4.cell? ⟨bk_4, 0, none⟩ = some (.slice A_v n' c_v) := (hk4.cell 0).trans rfl
  have fz4_0 := hk4.frozen 0
  clear hL hSt hb hz fx12
  all_goals
    go_wp2
    refine bodyPost_ret (v := .tuple #[.agg #[.slice A_v n' c_v], .agg #[.int .i64 base, .int .i64 size, .int .i64 head, .int .i64 ((tail + 1) % (2 * size))], .bool true]) (by simp [results, Try.results52, go_sem, bx2_0, bx3_0, bx3_1, bx3_2, bx3_3]) rfl ?_
    exact ⟨A_v, c_v, rfl, own_base o_v (by omega), k4⟩
theorem specRingPut_c (A A' : Option Addr) (n c n' c' : Nat) (l : List Mapping) (pg : List ByteArray) (w : World) (hn_a : l.length = n) (hn_b : pg.length = n') (hs_a : n ≤ 1048576) (hs_b : n' ≤ 1048576) (r_a : Reads w w.heap.size 4 A n (l.flatMap Mapping.cells)) (r_b : Reads w w.heap.size 1 A' n' (pg.flatMap fun x : ByteArray => [Value.string x])) (d base size head tail : Int) (s : ByteArray) (hh : I64 head) (ht : I64 tail) (hsz : s.size ≤ 1048576) :
    Calls Try.prog 52 #[.slice A n c, .agg #[.slice A' n' c'], .int .i64 d, .agg #[.int .i64 base, .int .i64 size, .int .i64 head, .int .i64 tail], .string s] w fun e w' => ∃ A2 c2, e = .returned (.tuple #[.agg #[.slice A2 n' c2], .agg #[.int .i64 base, .int .i64 size, .int .i64 head, .int .i64 (rputT l pg d base size head tail s)], .bool (rputB l pg d base size head tail s)]) ∧ w'.ownsRow w.heap.size 9 1 (.slice A2 n' c2) n' ((rputM l pg d base size head tail s).flatMap fun x : ByteArray => [Value.string x]) ∧ Below w.heap.size w w' := by
  by_cases hf : freeI base size head tail = 0
  · have hg : rputB l pg d base size head tail s = false := by rw [rputB, hf]; rfl
    rw [hg, (put_no hg).1, (put_no hg).2]
    exact specRingPut_1 A A' n c n' c' l pg w hn_a hn_b hs_a hs_b r_a r_b d base size head tail s hh ht hsz (by rw [hf]; rfl)
  · have hf2 : (freeI base size head tail == 0) = false := by simpa using hf
    by_cases h16 : s.size = 16
    · cases hd : dmaOk l pg d (slotI base size head tail tail) s.size true
      · have hg : rputB l pg d base size head tail s = false := by
          have hd2 : dmaOk l pg d (slotI base size head tail tail) 16 true = false := by have h5 := hd; rw [h16] at h5; exact h5
          rw [rputB, hd2, Bool.and_false, Bool.and_false]
        rw [hg, (put_no hg).1, (put_no hg).2]
        exact specRingPut_3 A A' n c n' c' l pg w hn_a hn_b hs_a hs_b r_a r_b d base size head tail s hh ht hsz hf2 (by simp [h16]) (by simp [h16]) (freeI_ok hf) hd
      · have hg : rputB l pg d base size head tail s = true := by
          have hd2 : dmaOk l pg d (slotI base size head tail tail) 16 true = true := by have h5 := hd; rw [h16] at h5; exact h5
          rw [rputB, hd2, hf2, show decide (s.size = 16) = true by simpa using h16]; rfl
        rw [hg, (put_yes hg).1, (put_yes hg).2]
        exact specRingPut_4 A A' n c n' c' l pg w hn_a hn_b hs_a hs_b r_a r_b d base size head tail s hh ht hsz hf2 (by simp [h16]) (by simp [h16]) (freeI_ok hf) hd
    · have hg : rputB l pg d base size head tail s = false := by rw [rputB, show decide (s.size = 16) = false by simpa using h16, Bool.false_and, Bool.and_false]
      rw [hg, (put_no hg).1, (put_no hg).2]
      exact specRingPut_2 A A' n c n' c' l pg w hn_a hn_b hs_a hs_b r_a r_b d base size head tail s hh ht hsz hf2 (by simp; omega) (by simp; omega)
end Go.Proofs.Ytnnlagmgdfhaiaa
