/- Contract of RingPutAll: spec. -/
import Derived.Test.YtnnlagmgdfhaiaaPutAll
namespace Go.Proofs.Ytnnlagmgdfhaiaa
set_option linter.unusedSimpArgs false
set_option linter.unusedVariables false
open Go.RowKit Go.ChangeShapes Go.WideShapes
set_option maxRecDepth 100000 in
set_option maxHeartbeats 8000000 in
theorem specRingPutAll_c (A A' A3 : Option Addr) (n c n' c' n3 c3 : Nat) (l : List Mapping) (pg es : List ByteArray) (w : World) (hn_a : l.length = n) (hn_b : pg.length = n') (hn_p : es.length = n3) (hs_a : n ≤ 1048576) (hs_b : n' ≤ 1048576) (hs_p : n3 ≤ 1048576) (r_a : Reads w w.heap.size 4 A n (l.flatMap Mapping.cells)) (r_b : Reads w w.heap.size 1 A' n' (pg.flatMap fun x : ByteArray => [Value.string x])) (r_p : Reads w w.heap.size 1 A3 n3 (es.flatMap fun x : ByteArray => [Value.string x])) (d base size head tail : Int) (hh : I64 head) (ht : I64 tail) (hi3 : ∀ x ∈ es, x.size ≤ 1048576) :
    Calls Try.prog 50 #[.slice A n c, .agg #[.slice A' n' c'], .int .i64 d, .agg #[.int .i64 base, .int .i64 size, .int .i64 head, .int .i64 tail], .slice A3 n3 c3] w fun e w' => ∃ A2 c2, e = .returned (.tuple #[.agg #[.slice A2 n' c2], .agg #[.int .i64 base, .int .i64 size, .int .i64 head, .int .i64 (paT l pg d base size head tail es)], .bool (paB l pg d base size head tail es)]) ∧ w'.ownsRow w.heap.size 9 1 (.slice A2 n' c2) n' ((paM l pg d base size head tail es).flatMap fun x : ByteArray => [Value.string x]) ∧ Below w.heap.size w w' := by
  have HN3 := Lib.hid hn_p
  have HI3 := Lib.hid hi3
  clear hi3
  have ra0 := r_a
  have rb0 := r_b
  have rp0 := r_p
  go_enter Try.func50, Try.ntmps50
  go_wp2_with fail
  have k0 : Below w.heap.size w ((((w.alloc (.cells #[.slice A' n' c'] 39)).alloc (.cells #[.int .i64 base, .int .i64 size, .int .i64 head, .int .i64 tail] 69)).alloc (.cells #[.slice none 0 0] 39)).alloc (.cells #[.int .i64 0, .int .i64 0, .int .i64 0, .int .i64 0] 69)) := by go_grown
  have bx0_0 : ((((w.alloc (.cells #[.slice A' n' c'] 39)).alloc (.cells #[.int .i64 base, .int .i64 size, .int .i64 head, .int .i64 tail] 69)).alloc (.cells #[.slice none 0 0] 39)).alloc (.cells #[.int .i64 0, .int .i64 0, .int .i64 0, .int .i64 0] 69)).cell? ⟨w.heap.size, 0, none⟩ = some (.slice A' n' c') := by simp [go_sem]
  have bl0 : w.heap.size < ((((w.alloc (.cells #[.slice A' n' c'] 39)).alloc (.cells #[.int .i64 base, .int .i64 size, .int .i64 head, .int .i64 tail] 69)).alloc (.cells #[.slice none 0 0] 39)).alloc (.cells #[.int .i64 0, .int .i64 0, .int .i64 0, .int .i64 0] 69)).heap.size := by go_size
  have hk0 : Blk ((((w.alloc (.cells #[.slice A' n' c'] 39)).alloc (.cells #[.int .i64 base, .int .i64 size, .int .i64 head, .int .i64 tail] 69)).alloc (.cells #[.slice none 0 0] 39)).alloc (.cells #[.int .i64 0, .int .i64 0, .int .i64 0, .int .i64 0] 69)) (w.heap.size) 39 [.slice A' n' c'] := by simpa using (((Blk.new w 39 [.slice A' n' c']).alloc (.cells #[.int .i64 base, .int .i64 size, .int .i64 head, .int .i64 tail] 69)).alloc (.cells #[.slice none 0 0] 39)).alloc (.cells #[.int .i64 0, .int .i64 0, .int .i64 0, .int .i64 0] 69)
  have bx1_0 : ((((w.alloc (.cells #[.slice A' n' c'] 39)).alloc (.cells #[.int .i64 base, .int .i64 size, .int .i64 head, .int .i64 tail] 69)).alloc (.cells #[.slice none 0 0] 39)).alloc (.cells #[.int .i64 0, .int .i64 0, .int .i64 0, .int .i64 0] 69)).cell? ⟨w.heap.size + 1, 0, none⟩ = some (.int .i64 base) := by simp [go_sem]
  have bx1_1 : ((((w.alloc (.cells #[.slice A' n' c'] 39)).alloc (.cells #[.int .i64 base, .int .i64 size, .int .i64 head, .int .i64 tail] 69)).alloc (.cells #[.slice none 0 0] 39)).alloc (.cells #[.int .i64 0, .int .i64 0, .int .i64 0, .int .i64 0] 69)).cell? ⟨w.heap.size + 1, 1, none⟩ = some (.int .i64 size) := by simp [go_sem]
  have bx1_2 : ((((w.alloc (.cells #[.slice A' n' c'] 39)).alloc (.cells #[.int .i64 base, .int .i64 size, .int .i64 head, .int .i64 tail] 69)).alloc (.cells #[.slice none 0 0] 39)).alloc (.cells #[.int .i64 0, .int .i64 0, .int .i64 0, .int .i64 0] 69)).cell? ⟨w.heap.size + 1, 2, none⟩ = some (.int .i64 head) := by simp [go_sem]
  have bx1_3 : ((((w.alloc (.cells #[.slice A' n' c'] 39)).alloc (.cells #[.int .i64 base, .int .i64 size, .int .i64 head, .int .i64 tail] 69)).alloc (.cells #[.slice none 0 0] 39)).alloc (.cells #[.int .i64 0, .int .i64 0, .int .i64 0, .int .i64 0] 69)).cell? ⟨w.heap.size + 1, 3, none⟩ = some (.int .i64 tail) := by simp [go_sem]
  have bl1 : w.heap.size + 1 < ((((w.alloc (.cells #[.slice A' n' c'] 39)).alloc (.cells #[.int .i64 base, .int .i64 size, .int .i64 head, .int .i64 tail] 69)).alloc (.cells #[.slice none 0 0] 39)).alloc (.cells #[.int .i64 0, .int .i64 0, .int .i64 0, .int .i64 0] 69)).heap.size := by go_size
  have hk1 : Blk ((((w.alloc (.cells #[.slice A' n' c'] 39)).alloc (.cells #[.int .i64 base, .int .i64 size, .int .i64 head, .int .i64 tail] 69)).alloc (.cells #[.slice none 0 0] 39)).alloc (.cells #[.int .i64 0, .int .i64 0, .int .i64 0, .int .i64 0] 69)) (w.heap.size + 1) 69 [.int .i64 base, .int .i64 size, .int .i64 head, .int .i64 tail] := by simpa using ((Blk.new (w.alloc (.cells #[.slice A' n' c'] 39)) 69 [.int .i64 base, .int .i64 size, .int .i64 head, .int .i64 tail]).alloc (.cells #[.slice none 0 0] 39)).alloc (.cells #[.int .i64 0, .int .i64 0, .int .i64 0, .int .i64 0] 69)
  have bx2_0 : ((((w.alloc (.cells #[.slice A' n' c'] 39)).alloc (.cells #[.int .i64 base, .int .i64 size, .int .i64 head, .int .i64 tail] 69)).alloc (.cells #[.slice none 0 0] 39)).alloc (.cells #[.int .i64 0, .int .i64 0, .int .i64 0, .int .i64 0] 69)).cell? ⟨w.heap.size + 1 + 1, 0, none⟩ = some (.slice none 0 0) := by simp [go_sem]
  have bl2 : w.heap.size + 1 + 1 < ((((w.alloc (.cells #[.slice A' n' c'] 39)).alloc (.cells #[.int .i64 base, .int .i64 size, .int .i64 head, .int .i64 tail] 69)).alloc (.cells #[.slice none 0 0] 39)).alloc (.cells #[.int .i64 0, .int .i64 0, .int .i64 0, .int .i64 0] 69)).heap.size := by go_size
  have hk2 : Blk ((((w.alloc (.cells #[.slice A' n' c'] 39)).alloc (.cells #[.int .i64 base, .int .i64 size, .int .i64 head, .int .i64 tail] 69)).alloc (.cells #[.slice none 0 0] 39)).alloc (.cells #[.int .i64 0, .int .i64 0, .int .i64 0, .int .i64 0] 69)) (w.heap.size + 1 + 1) 39 [.slice none 0 0] := by simpa using (Blk.new ((w.alloc (.cells #[.slice A' n' c'] 39)).alloc (.cells #[.int .i64 base, .int .i64 size, .int .i64 head, .int .i64 tail] 69)) 39 [.slice none 0 0]).alloc (.cells #[.int .i64 0, .int .i64 0, .int .i64 0, .int .i64 0] 69)
  have bx3_0 : ((((w.alloc (.cells #[.slice A' n' c'] 39)).alloc (.cells #[.int .i64 base, .int .i64 size, .int .i64 head, .int .i64 tail] 69)).alloc (.cells #[.slice none 0 0] 39)).alloc (.cells #[.int .i64 0, .int .i64 0, .int .i64 0, .int .i64 0] 69)).cell? ⟨w.heap.size + 1 + 1 + 1, 0, none⟩ = some (.int .i64 0) := by simp [go_sem]
  have bx3_1 : ((((w.alloc (.cells #[.slice A' n' c'] 39)).alloc (.cells #[.int .i64 base, .int .i64 size, .int .i64 head, .int .i64 tail] 69)).alloc (.cells #[.slice none 0 0] 39)).alloc (.cells #[.int .i64 0, .int .i64 0, .int .i64 0, .int .i64 0] 69)).cell? ⟨w.heap.size + 1 + 1 + 1, 1, none⟩ = some (.int .i64 0) := by simp [go_sem]
  have bx3_2 : ((((w.alloc (.cells #[.slice A' n' c'] 39)).alloc (.cells #[.int .i64 base, .int .i64 size, .int .i64 head, .int .i64 tail] 69)).alloc (.cells #[.slice none 0 0] 39)).alloc (.cells #[.int .i64 0, .int .i64 0, .int .i64 0, .int .i64 0] 69)).cell? ⟨w.heap.size + 1 + 1 + 1, 2, none⟩ = some (.int .i64 0) := by simp [go_sem]
  have bx3_3 : ((((w.alloc (.cells #[.slice A' n' c'] 39)).alloc (.cells #[.int .i64 base, .int .i64 size, .int .i64 head, .int .i64 tail] 69)).alloc (.cells #[.slice none 0 0] 39)).alloc (.cells #[.int .i64 0, .int .i64 0, .int .i64 0, .int .i64 0] 69)).cell? ⟨w.heap.size + 1 + 1 + 1, 3, none⟩ = some (.int .i64 0) := by simp [go_sem]
  have bl3 : w.heap.size + 1 + 1 + 1 < ((((w.alloc (.cells #[.slice A' n' c'] 39)).alloc (.cells #[.int .i64 base, .int .i64 size, .int .i64 head, .int .i64 tail] 69)).alloc (.cells #[.slice none 0 0] 39)).alloc (.cells #[.int .i64 0, .int .i64 0, .int .i64 0, .int .i64 0] 69)).heap.size := by go_size
  have hk3 : Blk ((((w.alloc (.cells #[.slice A' n' c'] 39)).alloc (.cells #[.int .i64 base, .int .i64 size, .int .i64 head, .int .i64 tail] 69)).alloc (.cells #[.slice none 0 0] 39)).alloc (.cells #[.int .i64 0, .int .i64 0, .int .i64 0, .int .i64 0] 69)) (w.heap.size + 1 + 1 + 1) 69 [.int .i64 0, .int .i64 0, .int .i64 0, .int .i64 0] := by simpa using Blk.new (((w.alloc (.cells #[.slice A' n' c'] 39)).alloc (.cells #[.int .i64 base, .int .i64 size, .int .i64 head, .int .i64 tail] 69)).alloc (.cells #[.slice none 0 0] 39)) 69 [.int .i64 0, .int .i64 0, .int .i64 0, .int .i64 0]
  have r_a := r_a.below k0
  have r_b := r_b.below k0
  have r_p := r_p.below k0
  have p0 := k0.size
  generalize hW0 : ((((w.alloc (.cells #[.slice A' n' c'] 39)).alloc (.cells #[.int .i64 base, .int .i64 size, .int .i64 head, .int .i64 tail] 69)).alloc (.cells #[.slice none 0 0] 39)).alloc (.cells #[.int .i64 0, .int .i64 0, .int .i64 0, .int .i64 0] 69)) = w0 at *
  clear hW0
  clear bx0_0 bx1_0 bx1_1 bx1_2 bx1_3 bx2_0 bx3_0 bx3_1 bx3_2 bx3_3
  have bx0_0 : w0.cell? ⟨w.heap.size, 0, none⟩ = some (.slice A' n' c') := (hk0.cell 0).trans rfl
  have fz0_0 := hk0.frozen 0
  have bx1_0 : w0.cell? ⟨w.heap.size + 1, 0, none⟩ = some (.int .i64 base) := (hk1.cell 0).trans rfl
  have fz1_0 := hk1.frozen 0
  have bx1_1 : w0.cell? ⟨w.heap.size + 1, 1, none⟩ = some (.int .i64 size) := (hk1.cell 1).trans rfl
  have fz1_1 := hk1.frozen 1
  have bx1_2 : w0.cell? ⟨w.heap.size + 1, 2, none⟩ = some (.int .i64 head) := (hk1.cell 2).trans rfl
  have fz1_2 := hk1.frozen 2
  have bx1_3 : w0.cell? ⟨w.heap.size + 1, 3, none⟩ = some (.int .i64 tail) := (hk1.cell 3).trans rfl
  have fz1_3 := hk1.frozen 3
  have bx2_0 : w0.cell? ⟨w.heap.size + 1 + 1, 0, none⟩ = some (.slice none 0 0) := (hk2.cell 0).trans rfl
  have fz2_0 := hk2.frozen 0
  have bx3_0 : w0.cell? ⟨w.heap.size + 1 + 1 + 1, 0, none⟩ = some (.int .i64 0) := (hk3.cell 0).trans rfl
  have fz3_0 := hk3.frozen 0
  have bx3_1 : w0.cell? ⟨w.heap.size + 1 + 1 + 1, 1, none⟩ = some (.int .i64 0) := (hk3.cell 1).trans rfl
  have fz3_1 := hk3.frozen 1
  have bx3_2 : w0.cell? ⟨w.heap.size + 1 + 1 + 1, 2, none⟩ = some (.int .i64 0) := (hk3.cell 2).trans rfl
  have fz3_2 := hk3.frozen 2
  have bx3_3 : w0.cell? ⟨w.heap.size + 1 + 1 + 1, 3, none⟩ = some (.int .i64 0) := (hk3.cell 3).trans rfl
  have fz3_3 := hk3.frozen 3
  refine (l16Copy_c _ _ _ pg _ hn_b (by omega) (r_b.more (by omega))).mono ?_
  rintro e w1 ⟨A_q, c_q, rfl, o_q, hb⟩
  have k1 : Below w.heap.size w w1 := ext_step k0 (by omega) hb
  have p1 := hb.size
  replace hk0 := hk0.ext hb
  replace hk1 := hk1.ext hb
  replace hk2 := hk2.ext hb
  replace hk3 := hk3.ext hb
  clear bx0_0 fz0_0 bx1_0 fz1_0 bx1_1 fz1_1 bx1_2 fz1_2 bx1_3 fz1_3 bx2_0 fz2_0 bx3_0 fz3_0 bx3_1 fz3_1 bx3_2 fz3_2 bx3_3 fz3_3
  have bx0_0 : w1.cell? ⟨w.heap.size, 0, none⟩ = some (.slice A' n' c') := (hk0.cell 0).trans rfl
  have fz0_0 := hk0.frozen 0
  have bx1_0 : w1.cell? ⟨w.heap.size + 1, 0, none⟩ = some (.int .i64 base) := (hk1.cell 0).trans rfl
  have fz1_0 := hk1.frozen 0
  have bx1_1 : w1.cell? ⟨w.heap.size + 1, 1, none⟩ = some (.int .i64 size) := (hk1.cell 1).trans rfl
  have fz1_1 := hk1.frozen 1
  have bx1_2 : w1.cell? ⟨w.heap.size + 1, 2, none⟩ = some (.int .i64 head) := (hk1.cell 2).trans rfl
  have fz1_2 := hk1.frozen 2
  have bx1_3 : w1.cell? ⟨w.heap.size + 1, 3, none⟩ = some (.int .i64 tail) := (hk1.cell 3).trans rfl
  have fz1_3 := hk1.frozen 3
  have bx2_0 : w1.cell? ⟨w.heap.size + 1 + 1, 0, none⟩ = some (.slice none 0 0) := (hk2.cell 0).trans rfl
  have fz2_0 := hk2.frozen 0
  have bx3_0 : w1.cell? ⟨w.heap.size + 1 + 1 + 1, 0, none⟩ = some (.int .i64 0) := (hk3.cell 0).trans rfl
  have fz3_0 := hk3.frozen 0
  have bx3_1 : w1.cell? ⟨w.heap.size + 1 + 1 + 1, 1, none⟩ = some (.int .i64 0) := (hk3.cell 1).trans rfl
  have fz3_1 := hk3.frozen 1
  have bx3_2 : w1.cell? ⟨w.heap.size + 1 + 1 + 1, 2, none⟩ = some (.int .i64 0) := (hk3.cell 2).trans rfl
  have fz3_2 := hk3.frozen 2
  have bx3_3 : w1.cell? ⟨w.heap.size + 1 + 1 + 1, 3, none⟩ = some (.int .i64 0) := (hk3.cell 3).trans rfl
  have fz3_3 := hk3.frozen 3
  have bl0 := Nat.lt_of_lt_of_le bl0 hb.size
  have bl1 := Nat.lt_of_lt_of_le bl1 hb.size
  have bl2 := Nat.lt_of_lt_of_le bl2 hb.size
  have bl3 := Nat.lt_of_lt_of_le bl3 hb.size
  replace r_a := r_a.below (hb.mono (by omega))
  replace r_b := r_b.below (hb.mono (by omega))
  replace r_p := r_p.below (hb.mono (by omega))
  have r_q := Reads.of_own o_q
  have u_q := fun k hk => (o_q.lt k hk).2
  clear hb
  go_wp2_with fail
  have hb : Below w1.heap.size w1 (w1.alloc (.cells #[.slice A_q n' c_q] 39)) := by go_grown
  have bx4_0 : (w1.alloc (.cells #[.slice A_q n' c_q] 39)).cell? ⟨w1.heap.size, 0, none⟩ = some (.slice A_q n' c_q) := by simp [go_sem]
  have bl4 : w1.heap.size < (w1.alloc (.cells #[.slice A_q n' c_q] 39)).heap.size := by go_size
  have hk4 : Blk (w1.alloc (.cells #[.slice A_q n' c_q] 39)) (w1.heap.size) 39 [.slice A_q n' c_q] := Blk.new _ _ _
  have hzb4 := Lib.hid (show (w1.alloc (.cells #[.slice A_q n' c_q] 39)).heap.size = w1.heap.size + 1 by simp)
  generalize hW0 : (w1.alloc (.cells #[.slice A_q n' c_q] 39)) = w2 at *
  clear hW0
  have k2 : Below w.heap.size w w2 := ext_step k1 (by omega) hb
  have p2 := hb.size
  replace hk0 := hk0.ext hb
  replace hk1 := hk1.ext hb
  replace hk2 := hk2.ext hb
  replace hk3 := hk3.ext hb
  clear bx0_0 fz0_0 bx1_0 fz1_0 bx1_1 fz1_1 bx1_2 fz1_2 bx1_3 fz1_3 bx2_0 fz2_0 bx3_0 fz3_0 bx3_1 fz3_1 bx3_2 fz3_2 bx3_3 fz3_3
  have bx0_0 : w2.cell? ⟨w.heap.size, 0, none⟩ = some (.slice A' n' c') := (hk0.cell 0).trans rfl
  have fz0_0 := hk0.frozen 0
  have bx1_0 : w2.cell? ⟨w.heap.size + 1, 0, none⟩ = some (.int .i64 base) := (hk1.cell 0).trans rfl
  have fz1_0 := hk1.frozen 0
  have bx1_1 : w2.cell? ⟨w.heap.size + 1, 1, none⟩ = some (.int .i64 size) := (hk1.cell 1).trans rfl
  have fz1_1 := hk1.frozen 1
  have bx1_2 : w2.cell? ⟨w.heap.size + 1, 2, none⟩ = some (.int .i64 head) := (hk1.cell 2).trans rfl
  have fz1_2 := hk1.frozen 2
  have bx1_3 : w2.cell? ⟨w.heap.size + 1, 3, none⟩ = some (.int .i64 tail) := (hk1.cell 3).trans rfl
  have fz1_3 := hk1.frozen 3
  have bx2_0 : w2.cell? ⟨w.heap.size + 1 + 1, 0, none⟩ = some (.slice none 0 0) := (hk2.cell 0).trans rfl
  have fz2_0 := hk2.frozen 0
  have bx3_0 : w2.cell? ⟨w.heap.size + 1 + 1 + 1, 0, none⟩ = some (.int .i64 0) := (hk3.cell 0).trans rfl
  have fz3_0 := hk3.frozen 0
  have bx3_1 : w2.cell? ⟨w.heap.size + 1 + 1 + 1, 1, none⟩ = some (.int .i64 0) := (hk3.cell 1).trans rfl
  have fz3_1 := hk3.frozen 1
  have bx3_2 : w2.cell? ⟨w.heap.size + 1 + 1 + 1, 2, none⟩ = some (.int .i64 0) := (hk3.cell 2).trans rfl
  have fz3_2 := hk3.frozen 2
  have bx3_3 : w2.cell? ⟨w.heap.size + 1 + 1 + 1, 3, none⟩ = some (.int .i64 0) := (hk3.cell 3).trans rfl
  have fz3_3 := hk3.frozen 3
  have bl0 := Nat.lt_of_lt_of_le bl0 hb.size
  have bl1 := Nat.lt_of_lt_of_le bl1 hb.size
  have bl2 := Nat.lt_of_lt_of_le bl2 hb.size
  have bl3 := Nat.lt_of_lt_of_le bl3 hb.size
  replace r_a := r_a.below (hb.mono (by omega))
  replace r_b := r_b.below (hb.mono (by omega))
  replace r_p := r_p.below (hb.mono (by omega))
  replace r_q := r_q.below (hb.mono (by omega))
  replace o_q := own_ext o_q hb
  clear bx0_0 fz0_0 bx1_0 fz1_0 bx1_1 fz1_1 bx1_2 fz1_2 bx1_3 fz1_3 bx2_0 fz2_0 bx3_0 fz3_0 bx3_1 fz3_1 bx3_2 fz3_2 bx3_3 fz3_3
  have bx0_0 : w2.cell? ⟨w.heap.size, 0, none⟩ = some (.slice A' n' c') := (hk0.cell 0).trans rfl
  have fz0_0 := hk0.frozen 0
  have bx1_0 : w2.cell? ⟨w.heap.size + 1, 0, none⟩ = some (.int .i64 base) := (hk1.cell 0).trans rfl
  have fz1_0 := hk1.frozen 0
  have bx1_1 : w2.cell? ⟨w.heap.size + 1, 1, none⟩ = some (.int .i64 size) := (hk1.cell 1).trans rfl
  have fz1_1 := hk1.frozen 1
  have bx1_2 : w2.cell? ⟨w.heap.size + 1, 2, none⟩ = some (.int .i64 head) := (hk1.cell 2).trans rfl
  have fz1_2 := hk1.frozen 2
  have bx1_3 : w2.cell? ⟨w.heap.size + 1, 3, none⟩ = some (.int .i64 tail) := (hk1.cell 3).trans rfl
  have fz1_3 := hk1.frozen 3
  have bx2_0 : w2.cell? ⟨w.heap.size + 1 + 1, 0, none⟩ = some (.slice none 0 0) := (hk2.cell 0).trans rfl
  have fz2_0 := hk2.frozen 0
  have bx3_0 : w2.cell? ⟨w.heap.size + 1 + 1 + 1, 0, none⟩ = some (.int .i64 0) := (hk3.cell 0).trans rfl
  have fz3_0 := hk3.frozen 0
  have bx3_1 : w2.cell? ⟨w.heap.size + 1 + 1 + 1, 1, none⟩ = some (.int .i64 0) := (hk3.cell 1).trans rfl
  have fz3_1 := hk3.frozen 1
  have bx3_2 : w2.cell? ⟨w.heap.size + 1 + 1 + 1, 2, none⟩ = some (.int .i64 0) := (hk3.cell 2).trans rfl
  have fz3_2 := hk3.frozen 2
  have bx3_3 : w2.cell? ⟨w.heap.size + 1 + 1 + 1, 3, none⟩ = some (.int .i64 0) := (hk3.cell 3).trans rfl
  have fz3_3 := hk3.frozen 3
  have bx4_0 : w2.cell? ⟨w1.heap.size, 0, none⟩ = some (.slice A_q n' c_q) := (hk4.cell 0).trans rfl
  have fz4_0 := hk4.frozen 0
  skip
  clear hb
  have hb : Below w2.heap.size w2 (w2.alloc (.cells #[.int .i64 base, .int .i64 size, .int .i64 head, .int .i64 tail] 69)) := by go_grown
  have bx5_0 : (w2.alloc (.cells #[.int .i64 base, .int .i64 size, .int .i64 head, .int .i64 tail] 69)).cell? ⟨w2.heap.size, 0, none⟩ = some (.int .i64 base) := by simp [go_sem]
  have bx5_1 : (w2.alloc (.cells #[.int .i64 base, .int .i64 size, .int .i64 head, .int .i64 tail] 69)).cell? ⟨w2.heap.size, 1, none⟩ = some (.int .i64 size) := by simp [go_sem]
  have bx5_2 : (w2.alloc (.cells #[.int .i64 base, .int .i64 size, .int .i64 head, .int .i64 tail] 69)).cell? ⟨w2.heap.size, 2, none⟩ = some (.int .i64 head) := by simp [go_sem]
  have bx5_3 : (w2.alloc (.cells #[.int .i64 base, .int .i64 size, .int .i64 head, .int .i64 tail] 69)).cell? ⟨w2.heap.size, 3, none⟩ = some (.int .i64 tail) := by simp [go_sem]
  have bl5 : w2.heap.size < (w2.alloc (.cells #[.int .i64 base, .int .i64 size, .int .i64 head, .int .i64 tail] 69)).heap.size := by go_size
  have hk5 : Blk (w2.alloc (.cells #[.int .i64 base, .int .i64 size, .int .i64 head, .int .i64 tail] 69)) (w1.heap.size + 1) 69 [.int .i64 base, .int .i64 size, .int .i64 head, .int .i64 tail] := by have h9 := Blk.new w2 69 [.int .i64 base, .int .i64 size, .int .i64 head, .int .i64 tail]; rw [hzb4.out] at h9; exact h9
  have hzb5 := Lib.hid (show (w2.alloc (.cells #[.int .i64 base, .int .i64 size, .int .i64 head, .int .i64 tail] 69)).heap.size = w2.heap.size + 1 by simp)
  generalize hW0 : (w2.alloc (.cells #[.int .i64 base, .int .i64 size, .int .i64 head, .int .i64 tail] 69)) = w3 at *
  clear hW0
  have k3 : Below w.heap.size w w3 := ext_step k2 (by omega) hb
  have p3 := hb.size
  replace hk0 := hk0.ext hb
  replace hk1 := hk1.ext hb
  replace hk2 := hk2.ext hb
  replace hk3 := hk3.ext hb
  replace hk4 := hk4.ext hb
  clear bx0_0 fz0_0 bx1_0 fz1_0 bx1_1 fz1_1 bx1_2 fz1_2 bx1_3 fz1_3 bx2_0 fz2_0 bx3_0 fz3_0 bx3_1 fz3_1 bx3_2 fz3_2 bx3_3 fz3_3 bx4_0 fz4_0
  have bx0_0 : w3.cell? ⟨w.heap.size, 0, none⟩ = some (.slice A' n' c') := (hk0.cell 0).trans rfl
  have fz0_0 := hk0.frozen 0
  have bx1_0 : w3.cell? ⟨w.heap.size + 1, 0, none⟩ = some (.int .i64 base) := (hk1.cell 0).trans rfl
  have fz1_0 := hk1.frozen 0
  have bx1_1 : w3.cell? ⟨w.heap.size + 1, 1, none⟩ = some (.int .i64 size) := (hk1.cell 1).trans rfl
  have fz1_1 := hk1.frozen 1
  have bx1_2 : w3.cell? ⟨w.heap.size + 1, 2, none⟩ = some (.int .i64 head) := (hk1.cell 2).trans rfl
  have fz1_2 := hk1.frozen 2
  have bx1_3 : w3.cell? ⟨w.heap.size + 1, 3, none⟩ = some (.int .i64 tail) := (hk1.cell 3).trans rfl
  have fz1_3 := hk1.frozen 3
  have bx2_0 : w3.cell? ⟨w.heap.size + 1 + 1, 0, none⟩ = some (.slice none 0 0) := (hk2.cell 0).trans rfl
  have fz2_0 := hk2.frozen 0
  have bx3_0 : w3.cell? ⟨w.heap.size + 1 + 1 + 1, 0, none⟩ = some (.int .i64 0) := (hk3.cell 0).trans rfl
  have fz3_0 := hk3.frozen 0
  have bx3_1 : w3.cell? ⟨w.heap.size + 1 + 1 + 1, 1, none⟩ = some (.int .i64 0) := (hk3.cell 1).trans rfl
  have fz3_1 := hk3.frozen 1
  have bx3_2 : w3.cell? ⟨w.heap.size + 1 + 1 + 1, 2, none⟩ = some (.int .i64 0) := (hk3.cell 2).trans rfl
  have fz3_2 := hk3.frozen 2
  have bx3_3 : w3.cell? ⟨w.heap.size + 1 + 1 + 1, 3, none⟩ = some (.int .i64 0) := (hk3.cell 3).trans rfl
  have fz3_3 := hk3.frozen 3
  have bx4_0 : w3.cell? ⟨w1.heap.size, 0, none⟩ = some (.slice A_q n' c_q) := (hk4.cell 0).trans rfl
  have fz4_0 := hk4.frozen 0
  have bl0 := Nat.lt_of_lt_of_le bl0 hb.size
  have bl1 := Nat.lt_of_lt_of_le bl1 hb.size
  have bl2 := Nat.lt_of_lt_of_le bl2 hb.size
  have bl3 := Nat.lt_of_lt_of_le bl3 hb.size
  have bl4 := Nat.lt_of_lt_of_le bl4 hb.size
  replace r_a := r_a.below (hb.mono (by omega))
  replace r_b := r_b.below (hb.mono (by omega))
  replace r_p := r_p.below (hb.mono (by omega))
  replace r_q := r_q.below (hb.mono (by omega))
  replace o_q := own_ext o_q hb
  clear bx0_0 fz0_0 bx1_0 fz1_0 bx1_1 fz1_1 bx1_2 fz1_2 bx1_3 fz1_3 bx2_0 fz2_0 bx3_0 fz3_0 bx3_1 fz3_1 bx3_2 fz3_2 bx3_3 fz3_3 bx4_0 fz4_0
  have bx0_0 : w3.cell? ⟨w.heap.size, 0, none⟩ = some (.slice A' n' c') := (hk0.cell 0).trans rfl
  have fz0_0 := hk0.frozen 0
  have bx1_0 : w3.cell? ⟨w.heap.size + 1, 0, none⟩ = some (.int .i64 base) := (hk1.cell 0).trans rfl
  have fz1_0 := hk1.frozen 0
  have bx1_1 : w3.cell? ⟨w.heap.size + 1, 1, none⟩ = some (.int .i64 size) := (hk1.cell 1).trans rfl
  have fz1_1 := hk1.frozen 1
  have bx1_2 : w3.cell? ⟨w.heap.size + 1, 2, none⟩ = some (.int .i64 head) := (hk1.cell 2).trans rfl
  have fz1_2 := hk1.frozen 2
  have bx1_3 : w3.cell? ⟨w.heap.size + 1, 3, none⟩ = some (.int .i64 tail) := (hk1.cell 3).trans rfl
  have fz1_3 := hk1.frozen 3
  have bx2_0 : w3.cell? ⟨w.heap.size + 1 + 1, 0, none⟩ = some (.slice none 0 0) := (hk2.cell 0).trans rfl
  have fz2_0 := hk2.frozen 0
  have bx3_0 : w3.cell? ⟨w.heap.size + 1 + 1 + 1, 0, none⟩ = some (.int .i64 0) := (hk3.cell 0).trans rfl
  have fz3_0 := hk3.frozen 0
  have bx3_1 : w3.cell? ⟨w.heap.size + 1 + 1 + 1, 1, none⟩ = some (.int .i64 0) := (hk3.cell 1).trans rfl
  have fz3_1 := hk3.frozen 1
  have bx3_2 : w3.cell? ⟨w.heap.size + 1 + 1 + 1, 2, none⟩ = some (.int .i64 0) := (hk3.cell 2).trans rfl
  have fz3_2 := hk3.frozen 2
  have bx3_3 : w3.cell? ⟨w.heap.size + 1 + 1 + 1, 3, none⟩ = some (.int .i64 0) := (hk3.cell 3).trans rfl
  have fz3_3 := hk3.frozen 3
  have bx4_0 : w3.cell? ⟨w1.heap.size, 0, none⟩ = some (.slice A_q n' c_q) := (hk4.cell 0).trans rfl
  have fz4_0 := hk4.frozen 0
  have bx5_0 : w3.cell? ⟨w1.heap.size + 1, 0, none⟩ = some (.int .i64 base) := (hk5.cell 0).trans rfl
  have fz5_0 := hk5.frozen 0
  have bx5_1 : w3.cell? ⟨w1.heap.size + 1, 1, none⟩ = some (.int .i64 size) := (hk5.cell 1).trans rfl
  have fz5_1 := hk5.frozen 1
  have bx5_2 : w3.cell? ⟨w1.heap.size + 1, 2, none⟩ = some (.int .i64 head) := (hk5.cell 2).trans rfl
  have fz5_2 := hk5.frozen 2
  have bx5_3 : w3.cell? ⟨w1.heap.size + 1, 3, none⟩ = some (.int .i64 tail) := (hk5.cell 3).trans rfl
  have fz5_3 := hk5.frozen 3
  skip
  clear hb
  have bl5 := hk5.lt
  have hne := blk_ne hk4 hk5 (by decide)
  go_loopw [15] (fun i wr => ∃ (k : Nat) (p : List ByteArray) (tt : Int) (A4 : Option Addr) (c4 : Nat), k ≤ n3 ∧ i = .int .i64 (k : Int) ∧ I64 tt ∧ Hid (p.length = n') ∧ Hid (paG l d base size head (es.drop k) p tt = paG l d base size head es pg tail) ∧ Below w.heap.size w wr ∧ Blk wr (w.heap.size) 39 [.slice A' n' c'] ∧ Blk wr (w.heap.size + 1) 69 [.int .i64 base, .int .i64 size, .int .i64 head, .int .i64 tail] ∧ Blk wr (w.heap.size + 1 + 1) 39 [.slice none 0 0] ∧ Blk wr (w.heap.size + 1 + 1 + 1) 69 [.int .i64 0, .int .i64 0, .int .i64 0, .int .i64 0] ∧ Blk wr (w1.heap.size) 39 [.slice A4 n' c4] ∧ Blk wr (w1.heap.size + 1) 69 [.int .i64 base, .int .i64 size, .int .i64 head, .int .i64 tt] ∧ wr.ownsRow (w.heap.size + 1 + 1 + 1 + 1) 9 1 (.slice A4 n' c4) n' (p.flatMap fun x : ByteArray => [Value.string x])) (fun i _ => n3 - (intOf i).toNat)
  case atStart => exact ⟨0, pg, tail, A_q, c_q, Nat.zero_le _, rfl, ht, hn_b, rfl, k3, hk0, hk1, hk2, hk3, hk4, hk5, own_base o_q (by omega)⟩
  case round =>
    try clear bx0_0 fz0_0 bx1_0 fz1_0 bx1_1 fz1_1 bx1_2 fz1_2 bx1_3 fz1_3 bx2_0 fz2_0 bx3_0 fz3_0 bx3_1 fz3_1 bx3_2 fz3_2 bx3_3 fz3_3 bx4_0 fz4_0 bx5_0 fz5_0 bx5_1 fz5_1 bx5_2 fz5_2 bx5_3 fz5_3 hk0 hk1 hk2 hk3 hk4 hk5 r_a r_b r_p r_q o_q u_q
    obtain ⟨k, p, tt, A4, c4, hk, rfl, htt, hpl, hsc, hbw, hk0, hk1, hk2, hk3, hk4, hk5, o_q⟩ := hrel
    obtain ⟨w9, hw9⟩ : ∃ w9 : World, w9 = wr := ⟨_, rfl⟩
    subst hw9
    have k9 := hbw
    have bl0 := hk0.lt
    have bl1 := hk1.lt
    have bl2 := hk2.lt
    have bl3 := hk3.lt
    have bl4 := hk4.lt
    have bl5 := hk5.lt
    have p9 := hbw.size
    have r_a := ra0.below hbw
    have r_b := rb0.below hbw
    have r_p := rp0.below hbw
    have r_q := Reads.of_own o_q
    by_cases hlt : k < n3
    · skip
      obtain ⟨b3, o3, x, rfl, hb3, hxx, hcx⟩ := rp0.el (fun _ => rfl) (by decide) HN3.out hlt
      have c0 := (hbw.cell (p := ⟨b3, o3 + k, none⟩) hb3).trans (by simpa using hcx 0 _ rfl)
      have HXx := Lib.hid hxx
      clear hxx hcx
      have hE := HI3.out x (List.mem_of_getElem? HXx.out)
      have i0 : (0 : Int) ≤ (k : Int) := by omega
      have i1 : (k : Int) < (n3 : Int) := by omega
      have hst := (paG_step (l := l) (d := d) (base := base) (size := size) (head := head) (p := p) (t := tt) HXx.out)
      cases hd : rputB l p d base size head tt x
      · skip
        have hno : paG l d base size head es pg tail = none := by rw [← hsc.out, hst, hd]; rfl
        have HB := Lib.hid (pa_none hno)
        clear hno
        have HD := Lib.hid hd
        clear hd hst
        have bx0_0 : w9.cell? ⟨w.heap.size, 0, none⟩ = some (.slice A' n' c') := (hk0.cell 0).trans rfl
        have fz0_0 := hk0.frozen 0
        have bx1_0 : w9.cell? ⟨w.heap.size + 1, 0, none⟩ = some (.int .i64 base) := (hk1.cell 0).trans rfl
        have fz1_0 := hk1.frozen 0
        have bx1_1 : w9.cell? ⟨w.heap.size + 1, 1, none⟩ = some (.int .i64 size) := (hk1.cell 1).trans rfl
        have fz1_1 := hk1.frozen 1
        have bx1_2 : w9.cell? ⟨w.heap.size + 1, 2, none⟩ = some (.int .i64 head) := (hk1.cell 2).trans rfl
        have fz1_2 := hk1.frozen 2
        have bx1_3 : w9.cell? ⟨w.heap.size + 1, 3, none⟩ = some (.int .i64 tail) := (hk1.cell 3).trans rfl
        have fz1_3 := hk1.frozen 3
        have bx2_0 : w9.cell? ⟨w.heap.size + 1 + 1, 0, none⟩ = some (.slice none 0 0) := (hk2.cell 0).trans rfl
        have fz2_0 := hk2.frozen 0
        have bx3_0 : w9.cell? ⟨w.heap.size + 1 + 1 + 1, 0, none⟩ = some (.int .i64 0) := (hk3.cell 0).trans rfl
        have fz3_0 := hk3.frozen 0
        have bx3_1 : w9.cell? ⟨w.heap.size + 1 + 1 + 1, 1, none⟩ = some (.int .i64 0) := (hk3.cell 1).trans rfl
        have fz3_1 := hk3.frozen 1
        have bx3_2 : w9.cell? ⟨w.heap.size + 1 + 1 + 1, 2, none⟩ = some (.int .i64 0) := (hk3.cell 2).trans rfl
        have fz3_2 := hk3.frozen 2
        have bx3_3 : w9.cell? ⟨w.heap.size + 1 + 1 + 1, 3, none⟩ = some (.int .i64 0) := (hk3.cell 3).trans rfl
        have fz3_3 := hk3.frozen 3
        have bx4_0 : w9.cell? ⟨w1.heap.size, 0, none⟩ = some (.slice A4 n' c4) := (hk4.cell 0).trans rfl
        have fz4_0 := hk4.frozen 0
        have bx5_0 : w9.cell? ⟨w1.heap.size + 1, 0, none⟩ = some (.int .i64 base) := (hk5.cell 0).trans rfl
        have fz5_0 := hk5.frozen 0
        have bx5_1 : w9.cell? ⟨w1.heap.size + 1, 1, none⟩ = some (.int .i64 size) := (hk5.cell 1).trans rfl
        have fz5_1 := hk5.frozen 1
        have bx5_2 : w9.cell? ⟨w1.heap.size + 1, 2, none⟩ = some (.int .i64 head) := (hk5.cell 2).trans rfl
        have fz5_2 := hk5.frozen 2
        have bx5_3 : w9.cell? ⟨w1.heap.size + 1, 3, none⟩ = some (.int .i64 tt) := (hk5.cell 3).trans rfl
        have fz5_3 := hk5.frozen 3
        go_wp2_with fail
        have hBB : w.heap.size ≤ w9.heap.size := by omega
        refine wp_region_slotsS (w.heap.size) [(27, fun _ v => v = .slice A n c), (28, fun _ v => v = .agg #[.slice A4 n' c4]), (29, fun _ v => v = .int .i64 d), (30, fun _ v => v = .agg #[.int .i64 base, .int .i64 size, .int .i64 head, .int .i64 tt]), (31, fun _ v => v = .slice (some ⟨b3, o3, none⟩) n3 c3), (32, fun _ v => v = .int .i64 (k : Int)), (33, fun _ v => v = .pointer (some ⟨b3, o3 + k, none⟩)), (34, fun _ v => v = .string x), (35, RowP w9.heap.size 9 1 n' ((rputM l p d base size head tt x).flatMap fun x : ByteArray => [Value.string x]) (fun A c => .tuple #[.agg #[.slice A n' c], .agg #[.int .i64 base, .int .i64 size, .int .i64 head, .int .i64 (rputT l p d base size head tt x)], .bool (rputB l p d base size head tt x)])), (26, RowP w9.heap.size 9 1 n' ((rputM l p d base size head tt x).flatMap fun x : ByteArray => [Value.string x]) (fun A c => .tuple #[.agg #[.slice A n' c], .agg #[.int .i64 base, .int .i64 size, .int .i64 head, .int .i64 (rputT l p d base size head tt x)], .bool (rputB l p d base size head tt x)])), (36, RowP w9.heap.size 9 1 n' ((rputM l p d base size head tt x).flatMap fun x : ByteArray => [Value.string x]) (fun A c => .agg #[.slice A n' c])), (37, fun _ v => v = .agg #[.int .i64 base, .int .i64 size, .int .i64 head, .int .i64 (rputT l p d base size head tt x)]), (38, fun _ v => v = .bool (rputB l p d base size head tt x)), (16, fun _ v => v = .bool (rputB l p d base size head tt x))] [⟨13, 36, fun u => Blk u (w1.heap.size) 39 [.slice A4 n' c4], StaR w9.heap.size (w1.heap.size) 39 9 1 n' ((rputM l p d base size head tt x).flatMap fun x : ByteArray => [Value.string x]) (fun A c => .agg #[.slice A n' c]) (fun A c => [.slice A n' c])⟩, ⟨14, 37, fun u => Blk u (w1.heap.size + 1) 69 [.int .i64 base, .int .i64 size, .int .i64 head, .int .i64 tt], fun u _ => Blk u (w1.heap.size + 1) 69 [.int .i64 base, .int .i64 size, .int .i64 head, .int .i64 (rputT l p d base size head tt x)]⟩] (fun u => Blk u (w.heap.size) 39 [.slice A' n' c'] ∧ Blk u (w.heap.size + 1) 69 [.int .i64 base, .int .i64 size, .int .i64 head, .int .i64 tail] ∧ Blk u (w.heap.size + 1 + 1) 39 [.slice none 0 0] ∧ Blk u (w.heap.size + 1 + 1 + 1) 69 [.int .i64 0, .int .i64 0, .int .i64 0, .int .i64 0] ∧ u.ownsRow (w.heap.size + 1 + 1 + 1 + 1) 9 1 (.slice A4 n' c4) n' (p.flatMap fun x : ByteArray => [Value.string x])) (by kernel_rfl) hBB (by kernel_rfl) (by kernel_rfl) (by kernel_rfl) (by kernel_rfl) ?_ ?_ ?_ ?_ ?_ ?_ ?_
        · intro p hp
          simp only [List.mem_cons, List.not_mem_nil, or_false] at hp
          rcases hp with rfl | rfl | rfl | rfl | rfl | rfl | rfl | rfl | rfl | rfl | rfl | rfl | rfl | rfl
          all_goals (intro u u' v hb hv; first | exact hv | exact BoxP.keep hv hb | exact RowP.keep hv hb)
        · intro s hs u u' hb
          simp only [List.mem_cons, List.not_mem_nil, or_false] at hs
          rcases hs with rfl | rfl
          all_goals (refine ⟨fun h => ?_, fun _ h => ?_⟩ <;> first | exact h | exact StoP.keep h hb | exact StoR.keep h hb | exact Blk.ext h hb | exact StaR.keep h hb)
        · intro s hs
          simp only [List.mem_cons, List.not_mem_nil, or_false] at hs
          rcases hs with rfl | rfl
          all_goals first | trivial | exact hk4 | exact hk5
        · exact ⟨hk0, hk1, hk2, hk3, o_q⟩
        · intro u u' hb hj
          obtain ⟨j0, j1, j2, j3, j4⟩ := hj
          exact ⟨(j0.ext hb), (j1.ext hb), (j2.ext hb), (j3.ext hb), (own_ext j4 hb)⟩
        · intro hGk hSk hJk
          refine allStep_cons (stepS_plain hGk hSk hBB hJk (by kernel_rfl) rfl ?_) ?_
          · intro a u hb hz hj hl hp K Q hK
            have e0 : a.tmps[0]?.getD undef = .slice A n c := gd (hl 0 (by kernel_rfl))
            go_simp
            exact hK _ _ (Below.refl _ _) (by intro d hd; cases hd; exact rfl)
          refine allStep_cons (stepS_plain hGk hSk hBB hJk (by kernel_rfl) rfl ?_) ?_
          · intro a u hb hz hj hl hp K Q hK
            have e13 : a.tmps[13]?.getD undef = .pointer (some ⟨w1.heap.size, 0, none⟩) := gd (hl 13 (by kernel_rfl))
            have hBb : Blk u (w1.heap.size) 39 [.slice A4 n' c4] := hp _ (List.mem_of_getElem? (i := 0) rfl) (by kernel_rfl)
            have gb0 : u.cell? ⟨w1.heap.size, 0, none⟩ = some (.slice A4 n' c4) := (hBb.cell 0).trans rfl
            go_simp
            exact hK _ _ (Below.refl _ _) (by intro d hd; cases hd; exact rfl)
          refine allStep_cons (stepS_plain hGk hSk hBB hJk (by kernel_rfl) rfl ?_) ?_
          · intro a u hb hz hj hl hp K Q hK
            have e2 : a.tmps[2]?.getD undef = .int .i64 d := gd (hl 2 (by kernel_rfl))
            go_simp
            exact hK _ _ (Below.refl _ _) (by intro d hd; cases hd; exact rfl)
          refine allStep_cons (stepS_plain hGk hSk hBB hJk (by kernel_rfl) rfl ?_) ?_
          · intro a u hb hz hj hl hp K Q hK
            have e14 : a.tmps[14]?.getD undef = .pointer (some ⟨w1.heap.size + 1, 0, none⟩) := gd (hl 14 (by kernel_rfl))
            have hBb : Blk u (w1.heap.size + 1) 69 [.int .i64 base, .int .i64 size, .int .i64 head, .int .i64 tt] := hp _ (List.mem_of_getElem? (i := 1) rfl) (by kernel_rfl)
            have gb0 : u.cell? ⟨w1.heap.size + 1, 0, none⟩ = some (.int .i64 base) := (hBb.cell 0).trans rfl
            have gb1 : u.cell? ⟨w1.heap.size + 1, 1, none⟩ = some (.int .i64 size) := (hBb.cell 1).trans rfl
            have gb2 : u.cell? ⟨w1.heap.size + 1, 2, none⟩ = some (.int .i64 head) := (hBb.cell 2).trans rfl
            have gb3 : u.cell? ⟨w1.heap.size + 1, 3, none⟩ = some (.int .i64 tt) := (hBb.cell 3).trans rfl
            go_simp
            exact hK _ _ (Below.refl _ _) (by intro d hd; cases hd; exact rfl)
          refine allStep_cons (stepS_plain hGk hSk hBB hJk (by kernel_rfl) rfl ?_) ?_
          · intro a u hb hz hj hl hp K Q hK
            have e4 : a.tmps[4]?.getD undef = .slice (some ⟨b3, o3, none⟩) n3 c3 := gd (hl 4 (by kernel_rfl))
            go_simp
            exact hK _ _ (Below.refl _ _) (by intro d hd; cases hd; exact rfl)
          refine allStep_cons (stepS_plain hGk hSk hBB hJk (by kernel_rfl) rfl ?_) ?_
          · intro a u hb hz hj hl hp K Q hK
            have e15 : a.tmps[15]?.getD undef = .int .i64 (k : Int) := gd (hl 15 (by kernel_rfl))
            go_simp
            exact hK _ _ (Below.refl _ _) (by intro d hd; cases hd; exact rfl)
          refine allStep_cons (stepS_plain hGk hSk hBB hJk (by kernel_rfl) rfl ?_) ?_
          · intro a u hb hz hj hl hp K Q hK
            have e31 : a.tmps[31]?.getD undef = .slice (some ⟨b3, o3, none⟩) n3 c3 := gd (hl 31 (by kernel_rfl))
            have e32 : a.tmps[32]?.getD undef = .int .i64 (k : Int) := gd (hl 32 (by kernel_rfl))
            go_simp
            exact hK _ _ (Below.refl _ _) (by intro d hd; cases hd; exact rfl)
          refine allStep_cons (stepS_plain hGk hSk hBB hJk (by kernel_rfl) rfl ?_) ?_
          · intro a u hb hz hj hl hp K Q hK
            have e33 : a.tmps[33]?.getD undef = .pointer (some ⟨b3, o3 + k, none⟩) := gd (hl 33 (by kernel_rfl))
            have c0 := (hb.cell (p := ⟨b3, o3 + k, none⟩) hb3).trans c0
            go_simp
            exact hK _ _ (Below.refl _ _) (by intro d hd; cases hd; exact rfl)
          refine allStep_cons (stepS_plain hGk hSk hBB hJk (by kernel_rfl) rfl ?_) ?_
          · intro a u hb hz hj hl hp K Q hK
            have e27 : a.tmps[27]?.getD undef = .slice A n c := gd (hl 27 (by kernel_rfl))
            have e28 : a.tmps[28]?.getD undef = .agg #[.slice A4 n' c4] := gd (hl 28 (by kernel_rfl))
            have e29 : a.tmps[29]?.getD undef = .int .i64 d := gd (hl 29 (by kernel_rfl))
            have e30 : a.tmps[30]?.getD undef = .agg #[.int .i64 base, .int .i64 size, .int .i64 head, .int .i64 tt] := gd (hl 30 (by kernel_rfl))
            have e34 : a.tmps[34]?.getD undef = .string x := gd (hl 34 (by kernel_rfl))
            obtain ⟨j0, j1, j2, j3, j4⟩ := hj
            go_simp
            refine (specRingPut_c _ _ _ _ _ _ l p _ hn_a hpl.out hs_a hs_b ((r_a.below (hb.mono (by omega))).more (by omega)) (Reads.of_own j4) _ _ _ _ _ _ hh htt hE).mono ?_
            rintro e u1 ⟨A_v, c_v, rfl, o_v, hb1⟩
            exact hK _ _ hb1 (by intro d hd; cases hd; exact ⟨A_v, c_v, rfl, own_base o_v (by omega)⟩)
          refine allStep_cons (stepS_plain hGk hSk hBB hJk (by kernel_rfl) rfl ?_) ?_
          · intro a u hb hz hj hl hp K Q hK
            obtain ⟨A1, c1, ex35, o1⟩ : RowP w9.heap.size 9 1 n' ((rputM l p d base size head tt x).flatMap fun x : ByteArray => [Value.string x]) (fun A c => .tuple #[.agg #[.slice A n' c], .agg #[.int .i64 base, .int .i64 size, .int .i64 head, .int .i64 (rputT l p d base size head tt x)], .bool (rputB l p d base size head tt x)]) u (a.tmps.getD 35 undef) := hl 35 (by kernel_rfl)
            have e35 := gd ex35
            go_simp
            exact hK _ _ (Below.refl _ _) (by intro d hd; cases hd; exact ⟨A1, c1, rfl, o1⟩)
          refine allStep_cons (stepS_plain hGk hSk hBB hJk (by kernel_rfl) rfl ?_) ?_
          · intro a u hb hz hj hl hp K Q hK
            obtain ⟨A1, c1, ex26, o1⟩ : RowP w9.heap.size 9 1 n' ((rputM l p d base size head tt x).flatMap fun x : ByteArray => [Value.string x]) (fun A c => .tuple #[.agg #[.slice A n' c], .agg #[.int .i64 base, .int .i64 size, .int .i64 head, .int .i64 (rputT l p d base size head tt x)], .bool (rputB l p d base size head tt x)]) u (a.tmps.getD 26 undef) := hl 26 (by kernel_rfl)
            have e26 := gd ex26
            go_simp
            exact hK _ _ (Below.refl _ _) (by intro d hd; cases hd; exact ⟨A1, c1, rfl, o1⟩)
          refine allStep_cons (stepS_plain hGk hSk hBB hJk (by kernel_rfl) rfl ?_) ?_
          · intro a u hb hz hj hl hp K Q hK
            obtain ⟨A1, c1, ex26, o1⟩ : RowP w9.heap.size 9 1 n' ((rputM l p d base size head tt x).flatMap fun x : ByteArray => [Value.string x]) (fun A c => .tuple #[.agg #[.slice A n' c], .agg #[.int .i64 base, .int .i64 size, .int .i64 head, .int .i64 (rputT l p d base size head tt x)], .bool (rputB l p d base size head tt x)]) u (a.tmps.getD 26 undef) := hl 26 (by kernel_rfl)
            have e26 := gd ex26
            go_simp
            exact hK _ _ (Below.refl _ _) (by intro d hd; cases hd; exact rfl)
          refine allStep_cons (stepS_plain hGk hSk hBB hJk (by kernel_rfl) rfl ?_) ?_
          · intro a u hb hz hj hl hp K Q hK
            obtain ⟨A1, c1, ex26, o1⟩ : RowP w9.heap.size 9 1 n' ((rputM l p d base size head tt x).flatMap fun x : ByteArray => [Value.string x]) (fun A c => .tuple #[.agg #[.slice A n' c], .agg #[.int .i64 base, .int .i64 size, .int .i64 head, .int .i64 (rputT l p d base size head tt x)], .bool (rputB l p d base size head tt x)]) u (a.tmps.getD 26 undef) := hl 26 (by kernel_rfl)
            have e26 := gd ex26
            go_simp
            exact hK _ _ (Below.refl _ _) (by intro d hd; cases hd; exact rfl)
          refine allStep_cons (stepS_store (ChgA (w1.heap.size)) (fun _ _ hc hb => hc.below (by omega) hb) (fun _ _ hc => hc.size) (hold_rel ?_) ?_ ?_ rfl rfl ?_) ?_
          · intro p hp
            simp only [List.mem_cons, List.not_mem_nil, or_false] at hp
            rcases hp with rfl | rfl | rfl | rfl | rfl | rfl | rfl | rfl | rfl | rfl | rfl | rfl | rfl | rfl
            all_goals (intro u u' v hb hv; first | exact hv | exact BoxP.chgA hv hb (by omega) | exact RowP.chgA hv hb (by omega))
          · intro s hs hne u u' hb
            simp only [List.mem_cons, List.not_mem_nil, or_false] at hs
            rcases hs with rfl | rfl
            all_goals first | exact absurd (by rfl) hne | (refine ⟨fun h => ?_, fun _ h => ?_⟩ <;> first | exact h | exact Blk.chgA h hb (by omega) | exact StoP.chgA h hb (by omega) | exact StoR.chgA h hb (by omega) | exact StaR.chgA h hb (by omega) (by omega))
          · intro u u' hb hj
            obtain ⟨j0, j1, j2, j3, j4⟩ := hj
            exact ⟨(j0.chgA hb (by omega)), (j1.chgA hb (by omega)), (j2.chgA hb (by omega)), (j3.chgA hb (by omega)), (own_chgA j4 hb (by first | exact own_ty o_q hk4 (by decide) | exact fun k hk => by have h1 := o_q.lt k hk; omega))⟩
          · intro a u hb hz hj hl hp K Q hK
            have e13 : a.tmps[13]?.getD undef = .pointer (some ⟨w1.heap.size, 0, none⟩) := gd (hl 13 (by kernel_rfl))
            have hBs : Blk u (w1.heap.size) 39 [.slice A4 n' c4] := hp _ (List.mem_of_getElem? (i := 0) rfl) (by kernel_rfl)
            have gs0 : u.cell? ⟨w1.heap.size, 0, none⟩ = some (.slice A4 n' c4) := (hBs.cell 0).trans rfl
            have f0 := hBs.frozen 0
            obtain ⟨A2, c2, ex36, o2⟩ : RowP w9.heap.size 9 1 n' ((rputM l p d base size head tt x).flatMap fun x : ByteArray => [Value.string x]) (fun A c => .agg #[.slice A n' c]) u (a.tmps.getD 36 undef) := hl 36 (by kernel_rfl)
            have e36 := gd ex36
            go_simp
            refine hK undef _ ((ChgA.refl _ _).set 0 _) (fun s hs he => ?_)
            simp only [List.mem_cons, List.not_mem_nil, or_false] at hs
            rcases hs with rfl | rfl
            · exact ⟨A2, c2, ex36, (hBs.set_ 0 _), own_chgA o2 ((ChgA.refl _ _).set 0 _) (fun k hk => by have := (o2.lt k hk).1; omega)⟩
            · exact absurd (show (14 : Nat) = 13 from he) (by decide)
          refine allStep_cons (stepS_store (ChgA (w1.heap.size + 1)) (fun _ _ hc hb => hc.below (by omega) hb) (fun _ _ hc => hc.size) (hold_rel ?_) ?_ ?_ rfl rfl ?_) ?_
          · intro p hp
            simp only [List.mem_cons, List.not_mem_nil, or_false] at hp
            rcases hp with rfl | rfl | rfl | rfl | rfl | rfl | rfl | rfl | rfl | rfl | rfl | rfl | rfl | rfl
            all_goals (intro u u' v hb hv; first | exact hv | exact BoxP.chgA hv hb (by omega) | exact RowP.chgA hv hb (by omega))
          · intro s hs hne u u' hb
            simp only [List.mem_cons, List.not_mem_nil, or_false] at hs
            rcases hs with rfl | rfl
            all_goals first | exact absurd (by rfl) hne | (refine ⟨fun h => ?_, fun _ h => ?_⟩ <;> first | exact h | exact Blk.chgA h hb (by omega) | exact StoP.chgA h hb (by omega) | exact StoR.chgA h hb (by omega) | exact StaR.chgA h hb (by omega) (by omega))
          · intro u u' hb hj
            obtain ⟨j0, j1, j2, j3, j4⟩ := hj
            exact ⟨(j0.chgA hb (by omega)), (j1.chgA hb (by omega)), (j2.chgA hb (by omega)), (j3.chgA hb (by omega)), (own_chgA j4 hb (by first | exact own_ty o_q hk5 (by decide) | exact fun k hk => by have h1 := o_q.lt k hk; omega))⟩
          · intro a u hb hz hj hl hp K Q hK
            have e14 : a.tmps[14]?.getD undef = .pointer (some ⟨w1.heap.size + 1, 0, none⟩) := gd (hl 14 (by kernel_rfl))
            have hBs : Blk u (w1.heap.size + 1) 69 [.int .i64 base, .int .i64 size, .int .i64 head, .int .i64 tt] := hp _ (List.mem_of_getElem? (i := 1) rfl) (by kernel_rfl)
            have gs0 : u.cell? ⟨w1.heap.size + 1, 0, none⟩ = some (.int .i64 base) := (hBs.cell 0).trans rfl
            have gs1 : u.cell? ⟨w1.heap.size + 1, 1, none⟩ = some (.int .i64 size) := (hBs.cell 1).trans rfl
            have gs2 : u.cell? ⟨w1.heap.size + 1, 2, none⟩ = some (.int .i64 head) := (hBs.cell 2).trans rfl
            have gs3 : u.cell? ⟨w1.heap.size + 1, 3, none⟩ = some (.int .i64 tt) := (hBs.cell 3).trans rfl
            have f0 := hBs.frozen 0
            have f1 := hBs.frozen 1
            have f2 := hBs.frozen 2
            have f3 := hBs.frozen 3
            have e37 : a.tmps[37]?.getD undef = .agg #[.int .i64 base, .int .i64 size, .int .i64 head, .int .i64 (rputT l p d base size head tt x)] := gd (hl 37 (by kernel_rfl))
            go_simp
            refine hK undef _ (((((ChgA.refl _ _).set 0 _).set 1 _).set 2 _).set 3 _) (fun s hs he => ?_)
            simp only [List.mem_cons, List.not_mem_nil, or_false] at hs
            rcases hs with rfl | rfl
            · exact absurd (show (13 : Nat) = 14 from he) (by decide)
            · exact ((((hBs.set_ 0 _).set_ 1 _).set_ 2 _).set_ 3 _)
          refine allStep_cons (stepS_plain hGk hSk hBB hJk (by kernel_rfl) rfl ?_) ?_
          · intro a u hb hz hj hl hp K Q hK
            have e38 : a.tmps[38]?.getD undef = .bool (rputB l p d base size head tt x) := gd (hl 38 (by kernel_rfl))
            go_simp
            exact hK _ _ (Below.refl _ _) (by intro d hd; cases hd; exact rfl)
          exact allStep_nil
        intro xT w10 hb hz hj hL hSt
        clear bx0_0 fz0_0 bx1_0 fz1_0 bx1_1 fz1_1 bx1_2 fz1_2 bx1_3 fz1_3 bx2_0 fz2_0 bx3_0 fz3_0 bx3_1 fz3_1 bx3_2 fz3_2 bx3_3 fz3_3 bx4_0 fz4_0 bx5_0 fz5_0 bx5_1 fz5_1 bx5_2 fz5_2 bx5_3 fz5_3 hk0 hk1 hk2 hk3 hk4 hk5 r_q o_q
        obtain ⟨hk0, hk1, hk2, hk3, o_q⟩ := hj
        have fx16 : xT 16 = .bool (rputB l p d base size head tt x) := hL _ (List.mem_of_getElem? (i := 13) rfl)
        obtain ⟨A_v, c_v, fy, hk4, o_v⟩ : StaR w9.heap.size (w1.heap.size) 39 9 1 n' ((rputM l p d base size head tt x).flatMap fun x : ByteArray => [Value.string x]) (fun A c => .agg #[.slice A n' c]) (fun A c => [.slice A n' c]) w10 (xT 36) := hSt _ (List.mem_of_getElem? (i := 0) rfl)
        clear fy
        have hk5 : Blk w10 (w1.heap.size + 1) 69 [.int .i64 base, .int .i64 size, .int .i64 head, .int .i64 (rputT l p d base size head tt x)] := hSt _ (List.mem_of_getElem? (i := 1) rfl)
        simp only [List.map, putAll, fx16]
        have k10 : Below w.heap.size w w10 := k9.trans hb
        have p10 : w9.heap.size ≤ w10.heap.size := hb.size
        have bl0 := Nat.lt_of_lt_of_le bl0 hb.size
        have bl1 := Nat.lt_of_lt_of_le bl1 hb.size
        have bl2 := Nat.lt_of_lt_of_le bl2 hb.size
        have bl3 := Nat.lt_of_lt_of_le bl3 hb.size
        have bl4 := Nat.lt_of_lt_of_le bl4 hb.size
        have bl5 := Nat.lt_of_lt_of_le bl5 hb.size
        replace r_a := r_a.below hb
        replace r_b := r_b.below hb
        replace r_p := r_p.below hb
        have r_q := Reads.of_own o_q
        have r_v := Reads.of_own o_v
        have u_v := fun k hk => (o_v.lt k hk).2
        have bx0_0 : w10.cell? ⟨w.heap.size, 0, none⟩ = some (.slice A' n' c') := (hk0.cell 0).trans rfl
        have fz0_0 := hk0.frozen 0
        have bx1_0 : w10.cell? ⟨w.heap.size + 1, 0, none⟩ = some (.int .i64 base) := (hk1.cell 0).trans rfl
        have fz1_0 := hk1.frozen 0
        have bx1_1 : w10.cell? ⟨w.heap.size + 1, 1, none⟩ = some (.int .i64 size) := (hk1.cell 1).trans rfl
        have fz1_1 := hk1.frozen 1
        have bx1_2 : w10.cell? ⟨w.heap.size + 1, 2, none⟩ = some (.int .i64 head) := (hk1.cell 2).trans rfl
        have fz1_2 := hk1.frozen 2
        have bx1_3 : w10.cell? ⟨w.heap.size + 1, 3, none⟩ = some (.int .i64 tail) := (hk1.cell 3).trans rfl
        have fz1_3 := hk1.frozen 3
        have bx2_0 : w10.cell? ⟨w.heap.size + 1 + 1, 0, none⟩ = some (.slice none 0 0) := (hk2.cell 0).trans rfl
        have fz2_0 := hk2.frozen 0
        have bx3_0 : w10.cell? ⟨w.heap.size + 1 + 1 + 1, 0, none⟩ = some (.int .i64 0) := (hk3.cell 0).trans rfl
        have fz3_0 := hk3.frozen 0
        have bx3_1 : w10.cell? ⟨w.heap.size + 1 + 1 + 1, 1, none⟩ = some (.int .i64 0) := (hk3.cell 1).trans rfl
        have fz3_1 := hk3.frozen 1
        have bx3_2 : w10.cell? ⟨w.heap.size + 1 + 1 + 1, 2, none⟩ = some (.int .i64 0) := (hk3.cell 2).trans rfl
        have fz3_2 := hk3.frozen 2
        have bx3_3 : w10.cell? ⟨w.heap.size + 1 + 1 + 1, 3, none⟩ = some (.int .i64 0) := (hk3.cell 3).trans rfl
        have fz3_3 := hk3.frozen 3
        have bx4_0 : w10.cell? ⟨w1.heap.size, 0, none⟩ = some (.slice A_v n' c_v) := (hk4.cell 0).trans rfl
        have fz4_0 := hk4.frozen 0
        have bx5_0 : w10.cell? ⟨w1.heap.size + 1, 0, none⟩ = some (.int .i64 base) := (hk5.cell 0).trans rfl
        have fz5_0 := hk5.frozen 0
        have bx5_1 : w10.cell? ⟨w1.heap.size + 1, 1, none⟩ = some (.int .i64 size) := (hk5.cell 1).trans rfl
        have fz5_1 := hk5.frozen 1
        have bx5_2 : w10.cell? ⟨w1.heap.size + 1, 2, none⟩ = some (.int .i64 head) := (hk5.cell 2).trans rfl
        have fz5_2 := hk5.frozen 2
        have bx5_3 : w10.cell? ⟨w1.heap.size + 1, 3, none⟩ = some (.int .i64 (rputT l p d base size head tt x)) := (hk5.cell 3).trans rfl
        have fz5_3 := hk5.frozen 3
        clear hL hSt hb hz fx16
        rw [HD.out]
        (try clear o_q)
        (try clear r_q)
        go_wp2_with fail
        have hBB : w.heap.size ≤ w10.heap.size := by omega
        refine wp_region_slotsS (w.heap.size) [(41, fun _ v => v = .agg #[.slice A' n' c']), (42, RowP w10.heap.size 9 1 n' (pg.flatMap fun x : ByteArray => [Value.string x]) (fun A c => .agg #[.slice A n' c])), (43, fun _ v => v = .agg #[.int .i64 base, .int .i64 size, .int .i64 head, .int .i64 tail]), (12, fun _ v => v = .bool false)] [⟨3, 42, fun u => Blk u (w.heap.size + 1 + 1) 39 [.slice none 0 0], StaR w10.heap.size (w.heap.size + 1 + 1) 39 9 1 n' (pg.flatMap fun x : ByteArray => [Value.string x]) (fun A c => .agg #[.slice A n' c]) (fun A c => [.slice A n' c])⟩, ⟨4, 43, fun u => Blk u (w.heap.size + 1 + 1 + 1) 69 [.int .i64 0, .int .i64 0, .int .i64 0, .int .i64 0], fun u _ => Blk u (w.heap.size + 1 + 1 + 1) 69 [.int .i64 base, .int .i64 size, .int .i64 head, .int .i64 tail]⟩] (fun u => Blk u (w.heap.size) 39 [.slice A' n' c'] ∧ Blk u (w.heap.size + 1) 69 [.int .i64 base, .int .i64 size, .int .i64 head, .int .i64 tail] ∧ Blk u (w1.heap.size) 39 [.slice A_v n' c_v] ∧ Blk u (w1.heap.size + 1) 69 [.int .i64 base, .int .i64 size, .int .i64 head, .int .i64 (rputT l p d base size head tt x)] ∧ u.ownsRow (w9.heap.size) 9 1 (.slice A_v n' c_v) n' ((rputM l p d base size head tt x).flatMap fun x : ByteArray => [Value.string x])) (by kernel_rfl) hBB (by kernel_rfl) (by kernel_rfl) (by kernel_rfl) (by kernel_rfl) ?_ ?_ ?_ ?_ ?_ ?_ ?_
        · intro p hp
          simp only [List.mem_cons, List.not_mem_nil, or_false] at hp
          rcases hp with rfl | rfl | rfl | rfl
          all_goals (intro u u' v hb hv; first | exact hv | exact BoxP.keep hv hb | exact RowP.keep hv hb)
        · intro s hs u u' hb
          simp only [List.mem_cons, List.not_mem_nil, or_false] at hs
          rcases hs with rfl | rfl
          all_goals (refine ⟨fun h => ?_, fun _ h => ?_⟩ <;> first | exact h | exact StoP.keep h hb | exact StoR.keep h hb | exact Blk.ext h hb | exact StaR.keep h hb)
        · intro s hs
          simp only [List.mem_cons, List.not_mem_nil, or_false] at hs
          rcases hs with rfl | rfl
          all_goals first | trivial | exact hk2 | exact hk3
        · exact ⟨hk0, hk1, hk4, hk5, o_v⟩
        · intro u u' hb hj
          obtain ⟨j0, j1, j2, j3, j4⟩ := hj
          exact ⟨(j0.ext hb), (j1.ext hb), (j2.ext hb), (j3.ext hb), (own_ext j4 hb)⟩
        · intro hGk hSk hJk
          refine allStep_cons (stepS_plain hGk hSk hBB hJk (by kernel_rfl) rfl ?_) ?_
          · intro a u hb hz hj hl hp K Q hK
            have e6 : a.tmps[6]?.getD undef = .pointer (some ⟨w.heap.size, 0, none⟩) := gd (hl 6 (by kernel_rfl))
            obtain ⟨j0, j1, j2, j3, j4⟩ := hj
            have hBb := j0
            have gb0 : u.cell? ⟨w.heap.size, 0, none⟩ = some (.slice A' n' c') := (hBb.cell 0).trans rfl
            go_simp
            exact hK _ _ (Below.refl _ _) (by intro d hd; cases hd; exact rfl)
          refine allStep_cons (stepS_plain hGk hSk hBB hJk (by kernel_rfl) rfl ?_) ?_
          · intro a u hb hz hj hl hp K Q hK
            have e41 : a.tmps[41]?.getD undef = .agg #[.slice A' n' c'] := gd (hl 41 (by kernel_rfl))
            go_simp
            refine (l16Copy_c _ _ _ pg _ hn_b (by omega) ((r_b.below (hb.mono (by omega))).more (by omega))).mono ?_
            rintro e u1 ⟨A_z, c_z, rfl, o_z, hb1⟩
            exact hK _ _ hb1 (by intro d hd; cases hd; exact ⟨A_z, c_z, rfl, own_base o_z (by omega)⟩)
          refine allStep_cons (stepS_plain hGk hSk hBB hJk (by kernel_rfl) rfl ?_) ?_
          · intro a u hb hz hj hl hp K Q hK
            have e8 : a.tmps[8]?.getD undef = .pointer (some ⟨w.heap.size + 1, 0, none⟩) := gd (hl 8 (by kernel_rfl))
            obtain ⟨j0, j1, j2, j3, j4⟩ := hj
            have hBb := j1
            have gb0 : u.cell? ⟨w.heap.size + 1, 0, none⟩ = some (.int .i64 base) := (hBb.cell 0).trans rfl
            have gb1 : u.cell? ⟨w.heap.size + 1, 1, none⟩ = some (.int .i64 size) := (hBb.cell 1).trans rfl
            have gb2 : u.cell? ⟨w.heap.size + 1, 2, none⟩ = some (.int .i64 head) := (hBb.cell 2).trans rfl
            have gb3 : u.cell? ⟨w.heap.size + 1, 3, none⟩ = some (.int .i64 tail) := (hBb.cell 3).trans rfl
            go_simp
            exact hK _ _ (Below.refl _ _) (by intro d hd; cases hd; exact rfl)
          refine allStep_cons (stepS_store (ChgA (w.heap.size + 1 + 1)) (fun _ _ hc hb => hc.below (by omega) hb) (fun _ _ hc => hc.size) (hold_rel ?_) ?_ ?_ rfl rfl ?_) ?_
          · intro p hp
            simp only [List.mem_cons, List.not_mem_nil, or_false] at hp
            rcases hp with rfl | rfl | rfl | rfl
            all_goals (intro u u' v hb hv; first | exact hv | exact BoxP.chgA hv hb (by omega) | exact RowP.chgA hv hb (by omega))
          · intro s hs hne u u' hb
            simp only [List.mem_cons, List.not_mem_nil, or_false] at hs
            rcases hs with rfl | rfl
            all_goals first | exact absurd (by rfl) hne | (refine ⟨fun h => ?_, fun _ h => ?_⟩ <;> first | exact h | exact Blk.chgA h hb (by omega) | exact StoP.chgA h hb (by omega) | exact StoR.chgA h hb (by omega) | exact StaR.chgA h hb (by omega) (by omega))
          · intro u u' hb hj
            obtain ⟨j0, j1, j2, j3, j4⟩ := hj
            exact ⟨(j0.chgA hb (by omega)), (j1.chgA hb (by omega)), (j2.chgA hb (by omega)), (j3.chgA hb (by omega)), (own_chgA j4 hb (by first | exact own_ty o_v hk2 (by decide) | exact fun k hk => by have h1 := o_v.lt k hk; omega))⟩
          · intro a u hb hz hj hl hp K Q hK
            have e10 : a.tmps[10]?.getD undef = .pointer (some ⟨w.heap.size + 1 + 1, 0, none⟩) := gd (hl 10 (by kernel_rfl))
            have hBs : Blk u (w.heap.size + 1 + 1) 39 [.slice none 0 0] := hp _ (List.mem_of_getElem? (i := 0) rfl) (by kernel_rfl)
            have gs0 : u.cell? ⟨w.heap.size + 1 + 1, 0, none⟩ = some (.slice none 0 0) := (hBs.cell 0).trans rfl
            have f0 := hBs.frozen 0
            obtain ⟨A2, c2, ex42, o2⟩ : RowP w10.heap.size 9 1 n' (pg.flatMap fun x : ByteArray => [Value.string x]) (fun A c => .agg #[.slice A n' c]) u (a.tmps.getD 42 undef) := hl 42 (by kernel_rfl)
            have e42 := gd ex42
            go_simp
            refine hK undef _ ((ChgA.refl _ _).set 0 _) (fun s hs he => ?_)
            simp only [List.mem_cons, List.not_mem_nil, or_false] at hs
            rcases hs with rfl | rfl
            · exact ⟨A2, c2, ex42, (hBs.set_ 0 _), own_chgA o2 ((ChgA.refl _ _).set 0 _) (fun k hk => by have := (o2.lt k hk).1; omega)⟩
            · exact absurd (show (4 : Nat) = 3 from he) (by decide)
          refine allStep_cons (stepS_store (ChgA (w.heap.size + 1 + 1 + 1)) (fun _ _ hc hb => hc.below (by omega) hb) (fun _ _ hc => hc.size) (hold_rel ?_) ?_ ?_ rfl rfl ?_) ?_
          · intro p hp
            simp only [List.mem_cons, List.not_mem_nil, or_false] at hp
            rcases hp with rfl | rfl | rfl | rfl
            all_goals (intro u u' v hb hv; first | exact hv | exact BoxP.chgA hv hb (by omega) | exact RowP.chgA hv hb (by omega))
          · intro s hs hne u u' hb
            simp only [List.mem_cons, List.not_mem_nil, or_false] at hs
            rcases hs with rfl | rfl
            all_goals first | exact absurd (by rfl) hne | (refine ⟨fun h => ?_, fun _ h => ?_⟩ <;> first | exact h | exact Blk.chgA h hb (by omega) | exact StoP.chgA h hb (by omega) | exact StoR.chgA h hb (by omega) | exact StaR.chgA h hb (by omega) (by omega))
          · intro u u' hb hj
            obtain ⟨j0, j1, j2, j3, j4⟩ := hj
            exact ⟨(j0.chgA hb (by omega)), (j1.chgA hb (by omega)), (j2.chgA hb (by omega)), (j3.chgA hb (by omega)), (own_chgA j4 hb (by first | exact own_ty o_v hk3 (by decide) | exact fun k hk => by have h1 := o_v.lt k hk; omega))⟩
          · intro a u hb hz hj hl hp K Q hK
            have e11 : a.tmps[11]?.getD undef = .pointer (some ⟨w.heap.size + 1 + 1 + 1, 0, none⟩) := gd (hl 11 (by kernel_rfl))
            have hBs : Blk u (w.heap.size + 1 + 1 + 1) 69 [.int .i64 0, .int .i64 0, .int .i64 0, .int .i64 0] := hp _ (List.mem_of_getElem? (i := 1) rfl) (by kernel_rfl)
            have gs0 : u.cell? ⟨w.heap.size + 1 + 1 + 1, 0, none⟩ = some (.int .i64 0) := (hBs.cell 0).trans rfl
            have gs1 : u.cell? ⟨w.heap.size + 1 + 1 + 1, 1, none⟩ = some (.int .i64 0) := (hBs.cell 1).trans rfl
            have gs2 : u.cell? ⟨w.heap.size + 1 + 1 + 1, 2, none⟩ = some (.int .i64 0) := (hBs.cell 2).trans rfl
            have gs3 : u.cell? ⟨w.heap.size + 1 + 1 + 1, 3, none⟩ = some (.int .i64 0) := (hBs.cell 3).trans rfl
            have f0 := hBs.frozen 0
            have f1 := hBs.frozen 1
            have f2 := hBs.frozen 2
            have f3 := hBs.frozen 3
            have e43 : a.tmps[43]?.getD undef = .agg #[.int .i64 base, .int .i64 size, .int .i64 head, .int .i64 tail] := gd (hl 43 (by kernel_rfl))
            go_simp
            refine hK undef _ (((((ChgA.refl _ _).set 0 _).set 1 _).set 2 _).set 3 _) (fun s hs he => ?_)
            simp only [List.mem_cons, List.not_mem_nil, or_false] at hs
            rcases hs with rfl | rfl
            · exact absurd (show (3 : Nat) = 4 from he) (by decide)
            · exact ((((hBs.set_ 0 _).set_ 1 _).set_ 2 _).set_ 3 _)
          refine allStep_cons (stepS_plain hGk hSk hBB hJk (by kernel_rfl) rfl ?_) ?_
          · intro a u hb hz hj hl hp K Q hK
            go_simp
            exact hK _ _ (Below.refl _ _) (by intro d hd; cases hd; exact rfl)
          exact allStep_nil
        intro xT w11 hb hz hj hL hSt
        clear bx0_0 fz0_0 bx1_0 fz1_0 bx1_1 fz1_1 bx1_2 fz1_2 bx1_3 fz1_3 bx2_0 fz2_0 bx3_0 fz3_0 bx3_1 fz3_1 bx3_2 fz3_2 bx3_3 fz3_3 bx4_0 fz4_0 bx5_0 fz5_0 bx5_1 fz5_1 bx5_2 fz5_2 bx5_3 fz5_3 hk0 hk1 hk2 hk3 hk4 hk5 r_v o_v
        obtain ⟨hk0, hk1, hk4, hk5, o_v⟩ := hj
        have fx12 : xT 12 = .bool false := hL _ (List.mem_of_getElem? (i := 3) rfl)
        obtain ⟨A_z, c_z, fy, hk2, o_z⟩ : StaR w10.heap.size (w.heap.size + 1 + 1) 39 9 1 n' (pg.flatMap fun x : ByteArray => [Value.string x]) (fun A c => .agg #[.slice A n' c]) (fun A c => [.slice A n' c]) w11 (xT 42) := hSt _ (List.mem_of_getElem? (i := 0) rfl)
        clear fy
        have hk3 : Blk w11 (w.heap.size + 1 + 1 + 1) 69 [.int .i64 base, .int .i64 size, .int .i64 head, .int .i64 tail] := hSt _ (List.mem_of_getElem? (i := 1) rfl)
        simp only [List.map, putAll, fx12]
        have k11 : Below w.heap.size w w11 := k10.trans hb
        have p11 : w10.heap.size ≤ w11.heap.size := hb.size
        have bl0 := Nat.lt_of_lt_of_le bl0 hb.size
        have bl1 := Nat.lt_of_lt_of_le bl1 hb.size
        have bl2 := Nat.lt_of_lt_of_le bl2 hb.size
        have bl3 := Nat.lt_of_lt_of_le bl3 hb.size
        have bl4 := Nat.lt_of_lt_of_le bl4 hb.size
        have bl5 := Nat.lt_of_lt_of_le bl5 hb.size
        replace r_a := r_a.below hb
        replace r_b := r_b.below hb
        replace r_p := r_p.below hb
        have r_v := Reads.of_own o_v
        have r_z := Reads.of_own o_z
        have u_z := fun k hk => (o_z.lt k hk).2
        have bx0_0 : w11.cell? ⟨w.heap.size, 0, none⟩ = some (.slice A' n' c') := (hk0.cell 0).trans rfl
        have fz0_0 := hk0.frozen 0
        have bx1_0 : w11.cell? ⟨w.heap.size + 1, 0, none⟩ = some (.int .i64 base) := (hk1.cell 0).trans rfl
        have fz1_0 := hk1.frozen 0
        have bx1_1 : w11.cell? ⟨w.heap.size + 1, 1, none⟩ = some (.int .i64 size) := (hk1.cell 1).trans rfl
        have fz1_1 := hk1.frozen 1
        have bx1_2 : w11.cell? ⟨w.heap.size + 1, 2, none⟩ = some (.int .i64 head) := (hk1.cell 2).trans rfl
        have fz1_2 := hk1.frozen 2
        have bx1_3 : w11.cell? ⟨w.heap.size + 1, 3, none⟩ = some (.int .i64 tail) := (hk1.cell 3).trans rfl
        have fz1_3 := hk1.frozen 3
        have bx2_0 : w11.cell? ⟨w.heap.size + 1 + 1, 0, none⟩ = some (.slice A_z n' c_z) := (hk2.cell 0).trans rfl
        have fz2_0 := hk2.frozen 0
        have bx3_0 : w11.cell? ⟨w.heap.size + 1 + 1 + 1, 0, none⟩ = some (.int .i64 base) := (hk3.cell 0).trans rfl
        have fz3_0 := hk3.frozen 0
        have bx3_1 : w11.cell? ⟨w.heap.size + 1 + 1 + 1, 1, none⟩ = some (.int .i64 size) := (hk3.cell 1).trans rfl
        have fz3_1 := hk3.frozen 1
        have bx3_2 : w11.cell? ⟨w.heap.size + 1 + 1 + 1, 2, none⟩ = some (.int .i64 head) := (hk3.cell 2).trans rfl
        have fz3_2 := hk3.frozen 2
        have bx3_3 : w11.cell? ⟨w.heap.size + 1 + 1 + 1, 3, none⟩ = some (.int .i64 tail) := (hk3.cell 3).trans rfl
        have fz3_3 := hk3.frozen 3
        have bx4_0 : w11.cell? ⟨w1.heap.size, 0, none⟩ = some (.slice A_v n' c_v) := (hk4.cell 0).trans rfl
        have fz4_0 := hk4.frozen 0
        have bx5_0 : w11.cell? ⟨w1.heap.size + 1, 0, none⟩ = some (.int .i64 base) := (hk5.cell 0).trans rfl
        have fz5_0 := hk5.frozen 0
        have bx5_1 : w11.cell? ⟨w1.heap.size + 1, 1, none⟩ = some (.int .i64 size) := (hk5.cell 1).trans rfl
        have fz5_1 := hk5.frozen 1
        have bx5_2 : w11.cell? ⟨w1.heap.size + 1, 2, none⟩ = some (.int .i64 head) := (hk5.cell 2).trans rfl
        have fz5_2 := hk5.frozen 2
        have bx5_3 : w11.cell? ⟨w1.heap.size + 1, 3, none⟩ = some (.int .i64 (rputT l p d base size head tt x)) := (hk5.cell 3).trans rfl
        have fz5_3 := hk5.frozen 3
        clear hL hSt hb hz fx12
        go_wp2
        refine bodyPost_ret (v := .tuple #[.agg #[.slice A_z n' c_z], .agg #[.int .i64 base, .int .i64 size, .int .i64 head, .int .i64 tail], .bool false]) (by simp [results, Try.results50, go_sem, bx2_0, bx3_0, bx3_1, bx3_2, bx3_3]) rfl ?_
        rw [HB.out.2.1]
        exact ⟨A_z, c_z, by rw [HB.out.1, HB.out.2.2], own_base o_z (by omega), k11⟩
      · skip
        have HST : Hid (paG l d base size head (es.drop (k + 1)) (rputM l p d base size head tt x) (rputT l p d base size head tt x) = paG l d base size head es pg tail) := by rw [Hid, ← hsc.out, hst, if_pos hd]
        have HPL : Hid ((rputM l p d base size head tt x).length = n') := by rw [Hid, rputM_len]; exact hpl.out
        have hT : I64 (rputT l p d base size head tt x) := rputT_i64 htt
        have HD := Lib.hid hd
        clear hd hst
        have bx0_0 : w9.cell? ⟨w.heap.size, 0, none⟩ = some (.slice A' n' c') := (hk0.cell 0).trans rfl
        have fz0_0 := hk0.frozen 0
        have bx1_0 : w9.cell? ⟨w.heap.size + 1, 0, none⟩ = some (.int .i64 base) := (hk1.cell 0).trans rfl
        have fz1_0 := hk1.frozen 0
        have bx1_1 : w9.cell? ⟨w.heap.size + 1, 1, none⟩ = some (.int .i64 size) := (hk1.cell 1).trans rfl
        have fz1_1 := hk1.frozen 1
        have bx1_2 : w9.cell? ⟨w.heap.size + 1, 2, none⟩ = some (.int .i64 head) := (hk1.cell 2).trans rfl
        have fz1_2 := hk1.frozen 2
        have bx1_3 : w9.cell? ⟨w.heap.size + 1, 3, none⟩ = some (.int .i64 tail) := (hk1.cell 3).trans rfl
        have fz1_3 := hk1.frozen 3
        have bx2_0 : w9.cell? ⟨w.heap.size + 1 + 1, 0, none⟩ = some (.slice none 0 0) := (hk2.cell 0).trans rfl
        have fz2_0 := hk2.frozen 0
        have bx3_0 : w9.cell? ⟨w.heap.size + 1 + 1 + 1, 0, none⟩ = some (.int .i64 0) := (hk3.cell 0).trans rfl
        have fz3_0 := hk3.frozen 0
        have bx3_1 : w9.cell? ⟨w.heap.size + 1 + 1 + 1, 1, none⟩ = some (.int .i64 0) := (hk3.cell 1).trans rfl
        have fz3_1 := hk3.frozen 1
        have bx3_2 : w9.cell? ⟨w.heap.size + 1 + 1 + 1, 2, none⟩ = some (.int .i64 0) := (hk3.cell 2).trans rfl
        have fz3_2 := hk3.frozen 2
        have bx3_3 : w9.cell? ⟨w.heap.size + 1 + 1 + 1, 3, none⟩ = some (.int .i64 0) := (hk3.cell 3).trans rfl
        have fz3_3 := hk3.frozen 3
        have bx4_0 : w9.cell? ⟨w1.heap.size, 0, none⟩ = some (.slice A4 n' c4) := (hk4.cell 0).trans rfl
        have fz4_0 := hk4.frozen 0
        have bx5_0 : w9.cell? ⟨w1.heap.size + 1, 0, none⟩ = some (.int .i64 base) := (hk5.cell 0).trans rfl
        have fz5_0 := hk5.frozen 0
        have bx5_1 : w9.cell? ⟨w1.heap.size + 1, 1, none⟩ = some (.int .i64 size) := (hk5.cell 1).trans rfl
        have fz5_1 := hk5.frozen 1
        have bx5_2 : w9.cell? ⟨w1.heap.size + 1, 2, none⟩ = some (.int .i64 head) := (hk5.cell 2).trans rfl
        have fz5_2 := hk5.frozen 2
        have bx5_3 : w9.cell? ⟨w1.heap.size + 1, 3, none⟩ = some (.int .i64 tt) := (hk5.cell 3).trans rfl
        have fz5_3 := hk5.frozen 3
        go_wp2_with fail
        have hBB : w.heap.size ≤ w9.heap.size := by omega
        refine wp_region_slotsS (w.heap.size) [(27, fun _ v => v = .slice A n c), (28, fun _ v => v = .agg #[.slice A4 n' c4]), (29, fun _ v => v = .int .i64 d), (30, fun _ v => v = .agg #[.int .i64 base, .int .i64 size, .int .i64 head, .int .i64 tt]), (31, fun _ v => v = .slice (some ⟨b3, o3, none⟩) n3 c3), (32, fun _ v => v = .int .i64 (k : Int)), (33, fun _ v => v = .pointer (some ⟨b3, o3 + k, none⟩)), (34, fun _ v => v = .string x), (35, RowP w9.heap.size 9 1 n' ((rputM l p d base size head tt x).flatMap fun x : ByteArray => [Value.string x]) (fun A c => .tuple #[.agg #[.slice A n' c], .agg #[.int .i64 base, .int .i64 size, .int .i64 head, .int .i64 (rputT l p d base size head tt x)], .bool (rputB l p d base size head tt x)])), (26, RowP w9.heap.size 9 1 n' ((rputM l p d base size head tt x).flatMap fun x : ByteArray => [Value.string x]) (fun A c => .tuple #[.agg #[.slice A n' c], .agg #[.int .i64 base, .int .i64 size, .int .i64 head, .int .i64 (rputT l p d base size head tt x)], .bool (rputB l p d base size head tt x)])), (36, RowP w9.heap.size 9 1 n' ((rputM l p d base size head tt x).flatMap fun x : ByteArray => [Value.string x]) (fun A c => .agg #[.slice A n' c])), (37, fun _ v => v = .agg #[.int .i64 base, .int .i64 size, .int .i64 head, .int .i64 (rputT l p d base size head tt x)]), (38, fun _ v => v = .bool (rputB l p d base size head tt x)), (16, fun _ v => v = .bool (rputB l p d base size head tt x))] [⟨13, 36, fun u => Blk u (w1.heap.size) 39 [.slice A4 n' c4], StaR w9.heap.size (w1.heap.size) 39 9 1 n' ((rputM l p d base size head tt x).flatMap fun x : ByteArray => [Value.string x]) (fun A c => .agg #[.slice A n' c]) (fun A c => [.slice A n' c])⟩, ⟨14, 37, fun u => Blk u (w1.heap.size + 1) 69 [.int .i64 base, .int .i64 size, .int .i64 head, .int .i64 tt], fun u _ => Blk u (w1.heap.size + 1) 69 [.int .i64 base, .int .i64 size, .int .i64 head, .int .i64 (rputT l p d base size head tt x)]⟩] (fun u => Blk u (w.heap.size) 39 [.slice A' n' c'] ∧ Blk u (w.heap.size + 1) 69 [.int .i64 base, .int .i64 size, .int .i64 head, .int .i64 tail] ∧ Blk u (w.heap.size + 1 + 1) 39 [.slice none 0 0] ∧ Blk u (w.heap.size + 1 + 1 + 1) 69 [.int .i64 0, .int .i64 0, .int .i64 0, .int .i64 0] ∧ u.ownsRow (w.heap.size + 1 + 1 + 1 + 1) 9 1 (.slice A4 n' c4) n' (p.flatMap fun x : ByteArray => [Value.string x])) (by kernel_rfl) hBB (by kernel_rfl) (by kernel_rfl) (by kernel_rfl) (by kernel_rfl) ?_ ?_ ?_ ?_ ?_ ?_ ?_
        · intro p hp
          simp only [List.mem_cons, List.not_mem_nil, or_false] at hp
          rcases hp with rfl | rfl | rfl | rfl | rfl | rfl | rfl | rfl | rfl | rfl | rfl | rfl | rfl | rfl
          all_goals (intro u u' v hb hv; first | exact hv | exact BoxP.keep hv hb | exact RowP.keep hv hb)
        · intro s hs u u' hb
          simp only [List.mem_cons, List.not_mem_nil, or_false] at hs
          rcases hs with rfl | rfl
          all_goals (refine ⟨fun h => ?_, fun _ h => ?_⟩ <;> first | exact h | exact StoP.keep h hb | exact StoR.keep h hb | exact Blk.ext h hb | exact StaR.keep h hb)
        · intro s hs
          simp only [List.mem_cons, List.not_mem_nil, or_false] at hs
          rcases hs with rfl | rfl
          all_goals first | trivial | exact hk4 | exact hk5
        · exact ⟨hk0, hk1, hk2, hk3, o_q⟩
        · intro u u' hb hj
          obtain ⟨j0, j1, j2, j3, j4⟩ := hj
          exact ⟨(j0.ext hb), (j1.ext hb), (j2.ext hb), (j3.ext hb), (own_ext j4 hb)⟩
        · intro hGk hSk hJk
          refine allStep_cons (stepS_plain hGk hSk hBB hJk (by kernel_rfl) rfl ?_) ?_
          · intro a u hb hz hj hl hp K Q hK
            have e0 : a.tmps[0]?.getD undef = .slice A n c := gd (hl 0 (by kernel_rfl))
            go_simp
            exact hK _ _ (Below.refl _ _) (by intro d hd; cases hd; exact rfl)
          refine allStep_cons (stepS_plain hGk hSk hBB hJk (by kernel_rfl) rfl ?_) ?_
          · intro a u hb hz hj hl hp K Q hK
            have e13 : a.tmps[13]?.getD undef = .pointer (some ⟨w1.heap.size, 0, none⟩) := gd (hl 13 (by kernel_rfl))
            have hBb : Blk u (w1.heap.size) 39 [.slice A4 n' c4] := hp _ (List.mem_of_getElem? (i := 0) rfl) (by kernel_rfl)
            have gb0 : u.cell? ⟨w1.heap.size, 0, none⟩ = some (.slice A4 n' c4) := (hBb.cell 0).trans rfl
            go_simp
            exact hK _ _ (Below.refl _ _) (by intro d hd; cases hd; exact rfl)
          refine allStep_cons (stepS_plain hGk hSk hBB hJk (by kernel_rfl) rfl ?_) ?_
          · intro a u hb hz hj hl hp K Q hK
            have e2 : a.tmps[2]?.getD undef = .int .i64 d := gd (hl 2 (by kernel_rfl))
            go_simp
            exact hK _ _ (Below.refl _ _) (by intro d hd; cases hd; exact rfl)
          refine allStep_cons (stepS_plain hGk hSk hBB hJk (by kernel_rfl) rfl ?_) ?_
          · intro a u hb hz hj hl hp K Q hK
            have e14 : a.tmps[14]?.getD undef = .pointer (some ⟨w1.heap.size + 1, 0, none⟩) := gd (hl 14 (by kernel_rfl))
            have hBb : Blk u (w1.heap.size + 1) 69 [.int .i64 base, .int .i64 size, .int .i64 head, .int .i64 tt] := hp _ (List.mem_of_getElem? (i := 1) rfl) (by kernel_rfl)
            have gb0 : u.cell? ⟨w1.heap.size + 1, 0, none⟩ = some (.int .i64 base) := (hBb.cell 0).trans rfl
            have gb1 : u.cell? ⟨w1.heap.size + 1, 1, none⟩ = some (.int .i64 size) := (hBb.cell 1).trans rfl
            have gb2 : u.cell? ⟨w1.heap.size + 1, 2, none⟩ = some (.int .i64 head) := (hBb.cell 2).trans rfl
            have gb3 : u.cell? ⟨w1.heap.size + 1, 3, none⟩ = some (.int .i64 tt) := (hBb.cell 3).trans rfl
            go_simp
            exact hK _ _ (Below.refl _ _) (by intro d hd; cases hd; exact rfl)
          refine allStep_cons (stepS_plain hGk hSk hBB hJk (by kernel_rfl) rfl ?_) ?_
          · intro a u hb hz hj hl hp K Q hK
            have e4 : a.tmps[4]?.getD undef = .slice (some ⟨b3, o3, none⟩) n3 c3 := gd (hl 4 (by kernel_rfl))
            go_simp
            exact hK _ _ (Below.refl _ _) (by intro d hd; cases hd; exact rfl)
          refine allStep_cons (stepS_plain hGk hSk hBB hJk (by kernel_rfl) rfl ?_) ?_
          · intro a u hb hz hj hl hp K Q hK
            have e15 : a.tmps[15]?.getD undef = .int .i64 (k : Int) := gd (hl 15 (by kernel_rfl))
            go_simp
            exact hK _ _ (Below.refl _ _) (by intro d hd; cases hd; exact rfl)
          refine allStep_cons (stepS_plain hGk hSk hBB hJk (by kernel_rfl) rfl ?_) ?_
          · intro a u hb hz hj hl hp K Q hK
            have e31 : a.tmps[31]?.getD undef = .slice (some ⟨b3, o3, none⟩) n3 c3 := gd (hl 31 (by kernel_rfl))
            have e32 : a.tmps[32]?.getD undef = .int .i64 (k : Int) := gd (hl 32 (by kernel_rfl))
            go_simp
            exact hK _ _ (Below.refl _ _) (by intro d hd; cases hd; exact rfl)
          refine allStep_cons (stepS_plain hGk hSk hBB hJk (by kernel_rfl) rfl ?_) ?_
          · intro a u hb hz hj hl hp K Q hK
            have e33 : a.tmps[33]?.getD undef = .pointer (some ⟨b3, o3 + k, none⟩) := gd (hl 33 (by kernel_rfl))
            have c0 := (hb.cell (p := ⟨b3, o3 + k, none⟩) hb3).trans c0
            go_simp
            exact hK _ _ (Below.refl _ _) (by intro d hd; cases hd; exact rfl)
          refine allStep_cons (stepS_plain hGk hSk hBB hJk (by kernel_rfl) rfl ?_) ?_
          · intro a u hb hz hj hl hp K Q hK
            have e27 : a.tmps[27]?.getD undef = .slice A n c := gd (hl 27 (by kernel_rfl))
            have e28 : a.tmps[28]?.getD undef = .agg #[.slice A4 n' c4] := gd (hl 28 (by kernel_rfl))
            have e29 : a.tmps[29]?.getD undef = .int .i64 d := gd (hl 29 (by kernel_rfl))
            have e30 : a.tmps[30]?.getD undef = .agg #[.int .i64 base, .int .i64 size, .int .i64 head, .int .i64 tt] := gd (hl 30 (by kernel_rfl))
            have e34 : a.tmps[34]?.getD undef = .string x := gd (hl 34 (by kernel_rfl))
            obtain ⟨j0, j1, j2, j3, j4⟩ := hj
            go_simp
            refine (specRingPut_c _ _ _ _ _ _ l p _ hn_a hpl.out hs_a hs_b ((r_a.below (hb.mono (by omega))).more (by omega)) (Reads.of_own j4) _ _ _ _ _ _ hh htt hE).mono ?_
            rintro e u1 ⟨A_v, c_v, rfl, o_v, hb1⟩
            exact hK _ _ hb1 (by intro d hd; cases hd; exact ⟨A_v, c_v, rfl, own_base o_v (by omega)⟩)
          refine allStep_cons (stepS_plain hGk hSk hBB hJk (by kernel_rfl) rfl ?_) ?_
          · intro a u hb hz hj hl hp K Q hK
            obtain ⟨A1, c1, ex35, o1⟩ : RowP w9.heap.size 9 1 n' ((rputM l p d base size head tt x).flatMap fun x : ByteArray => [Value.string x]) (fun A c => .tuple #[.agg #[.slice A n' c], .agg #[.int .i64 base, .int .i64 size, .int .i64 head, .int .i64 (rputT l p d base size head tt x)], .bool (rputB l p d base size head tt x)]) u (a.tmps.getD 35 undef) := hl 35 (by kernel_rfl)
            have e35 := gd ex35
            go_simp
            exact hK _ _ (Below.refl _ _) (by intro d hd; cases hd; exact ⟨A1, c1, rfl, o1⟩)
          refine allStep_cons (stepS_plain hGk hSk hBB hJk (by kernel_rfl) rfl ?_) ?_
          · intro a u hb hz hj hl hp K Q hK
            obtain ⟨A1, c1, ex26, o1⟩ : RowP w9.heap.size 9 1 n' ((rputM l p d base size head tt x).flatMap fun x : ByteArray => [Value.string x]) (fun A c => .tuple #[.agg #[.slice A n' c], .agg #[.int .i64 base, .int .i64 size, .int .i64 head, .int .i64 (rputT l p d base size head tt x)], .bool (rputB l p d base size head tt x)]) u (a.tmps.getD 26 undef) := hl 26 (by kernel_rfl)
            have e26 := gd ex26
            go_simp
            exact hK _ _ (Below.refl _ _) (by intro d hd; cases hd; exact ⟨A1, c1, rfl, o1⟩)
          refine allStep_cons (stepS_plain hGk hSk hBB hJk (by kernel_rfl) rfl ?_) ?_
          · intro a u hb hz hj hl hp K Q hK
            obtain ⟨A1, c1, ex26, o1⟩ : RowP w9.heap.size 9 1 n' ((rputM l p d base size head tt x).flatMap fun x : ByteArray => [Value.string x]) (fun A c => .tuple #[.agg #[.slice A n' c], .agg #[.int .i64 base, .int .i64 size, .int .i64 head, .int .i64 (rputT l p d base size head tt x)], .bool (rputB l p d base size head tt x)]) u (a.tmps.getD 26 undef) := hl 26 (by kernel_rfl)
            have e26 := gd ex26
            go_simp
            exact hK _ _ (Below.refl _ _) (by intro d hd; cases hd; exact rfl)
          refine allStep_cons (stepS_plain hGk hSk hBB hJk (by kernel_rfl) rfl ?_) ?_
          · intro a u hb hz hj hl hp K Q hK
            obtain ⟨A1, c1, ex26, o1⟩ : RowP w9.heap.size 9 1 n' ((rputM l p d base size head tt x).flatMap fun x : ByteArray => [Value.string x]) (fun A c => .tuple #[.agg #[.slice A n' c], .agg #[.int .i64 base, .int .i64 size, .int .i64 head, .int .i64 (rputT l p d base size head tt x)], .bool (rputB l p d base size head tt x)]) u (a.tmps.getD 26 undef) := hl 26 (by kernel_rfl)
            have e26 := gd ex26
            go_simp
            exact hK _ _ (Below.refl _ _) (by intro d hd; cases hd; exact rfl)
          refine allStep_cons (stepS_store (ChgA (w1.heap.size)) (fun _ _ hc hb => hc.below (by omega) hb) (fun _ _ hc => hc.size) (hold_rel ?_) ?_ ?_ rfl rfl ?_) ?_
          · intro p hp
            simp only [List.mem_cons, List.not_mem_nil, or_false] at hp
            rcases hp with rfl | rfl | rfl | rfl | rfl | rfl | rfl | rfl | rfl | rfl | rfl | rfl | rfl | rfl
            all_goals (intro u u' v hb hv; first | exact hv | exact BoxP.chgA hv hb (by omega) | exact RowP.chgA hv hb (by omega))
          · intro s hs hne u u' hb
            simp only [List.mem_cons, List.not_mem_nil, or_false] at hs
            rcases hs with rfl | rfl
            all_goals first | exact absurd (by rfl) hne | (refine ⟨fun h => ?_, fun _ h => ?_⟩ <;> first | exact h | exact Blk.chgA h hb (by omega) | exact StoP.chgA h hb (by omega) | exact StoR.chgA h hb (by omega) | exact StaR.chgA h hb (by omega) (by omega))
          · intro u u' hb hj
            obtain ⟨j0, j1, j2, j3, j4⟩ := hj
            exact ⟨(j0.chgA hb (by omega)), (j1.chgA hb (by omega)), (j2.chgA hb (by omega)), (j3.chgA hb (by omega)), (own_chgA j4 hb (by first | exact own_ty o_q hk4 (by decide) | exact fun k hk => by have h1 := o_q.lt k hk; omega))⟩
          · intro a u hb hz hj hl hp K Q hK
            have e13 : a.tmps[13]?.getD undef = .pointer (some ⟨w1.heap.size, 0, none⟩) := gd (hl 13 (by kernel_rfl))
            have hBs : Blk u (w1.heap.size) 39 [.slice A4 n' c4] := hp _ (List.mem_of_getElem? (i := 0) rfl) (by kernel_rfl)
            have gs0 : u.cell? ⟨w1.heap.size, 0, none⟩ = some (.slice A4 n' c4) := (hBs.cell 0).trans rfl
            have f0 := hBs.frozen 0
            obtain ⟨A2, c2, ex36, o2⟩ : RowP w9.heap.size 9 1 n' ((rputM l p d base size head tt x).flatMap fun x : ByteArray => [Value.string x]) (fun A c => .agg #[.slice A n' c]) u (a.tmps.getD 36 undef) := hl 36 (by kernel_rfl)
            have e36 := gd ex36
            go_simp
            refine hK undef _ ((ChgA.refl _ _).set 0 _) (fun s hs he => ?_)
            simp only [List.mem_cons, List.not_mem_nil, or_false] at hs
            rcases hs with rfl | rfl
            · exact ⟨A2, c2, ex36, (hBs.set_ 0 _), own_chgA o2 ((ChgA.refl _ _).set 0 _) (fun k hk => by have := (o2.lt k hk).1; omega)⟩
            · exact absurd (show (14 : Nat) = 13 from he) (by decide)
          refine allStep_cons (stepS_store (ChgA (w1.heap.size + 1)) (fun _ _ hc hb => hc.below (by omega) hb) (fun _ _ hc => hc.size) (hold_rel ?_) ?_ ?_ rfl rfl ?_) ?_
          · intro p hp
            simp only [List.mem_cons, List.not_mem_nil, or_false] at hp
            rcases hp with rfl | rfl | rfl | rfl | rfl | rfl | rfl | rfl | rfl | rfl | rfl | rfl | rfl | rfl
            all_goals (intro u u' v hb hv; first | exact hv | exact BoxP.chgA hv hb (by omega) | exact RowP.chgA hv hb (by omega))
          · intro s hs hne u u' hb
            simp only [List.mem_cons, List.not_mem_nil, or_false] at hs
            rcases hs with rfl | rfl
            all_goals first | exact absurd (by rfl) hne | (refine ⟨fun h => ?_, fun _ h => ?_⟩ <;> first | exact h | exact Blk.chgA h hb (by omega) | exact StoP.chgA h hb (by omega) | exact StoR.chgA h hb (by omega) | exact StaR.chgA h hb (by omega) (by omega))
          · intro u u' hb hj
            obtain ⟨j0, j1, j2, j3, j4⟩ := hj
            exact ⟨(j0.chgA hb (by omega)), (j1.chgA hb (by omega)), (j2.chgA hb (by omega)), (j3.chgA hb (by omega)), (own_chgA j4 hb (by first | exact own_ty o_q hk5 (by decide) | exact fun k hk => by have h1 := o_q.lt k hk; omega))⟩
          · intro a u hb hz hj hl hp K Q hK
            have e14 : a.tmps[14]?.getD undef = .pointer (some ⟨w1.heap.size + 1, 0, none⟩) := gd (hl 14 (by kernel_rfl))
            have hBs : Blk u (w1.heap.size + 1) 69 [.int .i64 base, .int .i64 size, .int .i64 head, .int .i64 tt] := hp _ (List.mem_of_getElem? (i := 1) rfl) (by kernel_rfl)
            have gs0 : u.cell? ⟨w1.heap.size + 1, 0, none⟩ = some (.int .i64 base) := (hBs.cell 0).trans rfl
            have gs1 : u.cell? ⟨w1.heap.size + 1, 1, none⟩ = some (.int .i64 size) := (hBs.cell 1).trans rfl
            have gs2 : u.cell? ⟨w1.heap.size + 1, 2, none⟩ = some (.int .i64 head) := (hBs.cell 2).trans rfl
            have gs3 : u.cell? ⟨w1.heap.size + 1, 3, none⟩ = some (.int .i64 tt) := (hBs.cell 3).trans rfl
            have f0 := hBs.frozen 0
            have f1 := hBs.frozen 1
            have f2 := hBs.frozen 2
            have f3 := hBs.frozen 3
            have e37 : a.tmps[37]?.getD undef = .agg #[.int .i64 base, .int .i64 size, .int .i64 head, .int .i64 (rputT l p d base size head tt x)] := gd (hl 37 (by kernel_rfl))
            go_simp
            refine hK undef _ (((((ChgA.refl _ _).set 0 _).set 1 _).set 2 _).set 3 _) (fun s hs he => ?_)
            simp only [List.mem_cons, List.not_mem_nil, or_false] at hs
            rcases hs with rfl | rfl
            · exact absurd (show (13 : Nat) = 14 from he) (by decide)
            · exact ((((hBs.set_ 0 _).set_ 1 _).set_ 2 _).set_ 3 _)
          refine allStep_cons (stepS_plain hGk hSk hBB hJk (by kernel_rfl) rfl ?_) ?_
          · intro a u hb hz hj hl hp K Q hK
            have e38 : a.tmps[38]?.getD undef = .bool (rputB l p d base size head tt x) := gd (hl 38 (by kernel_rfl))
            go_simp
            exact hK _ _ (Below.refl _ _) (by intro d hd; cases hd; exact rfl)
          exact allStep_nil
        intro xT w10 hb hz hj hL hSt
        clear bx0_0 fz0_0 bx1_0 fz1_0 bx1_1 fz1_1 bx1_2 fz1_2 bx1_3 fz1_3 bx2_0 fz2_0 bx3_0 fz3_0 bx3_1 fz3_1 bx3_2 fz3_2 bx3_3 fz3_3 bx4_0 fz4_0 bx5_0 fz5_0 bx5_1 fz5_1 bx5_2 fz5_2 bx5_3 fz5_3 hk0 hk1 hk2 hk3 hk4 hk5 r_q o_q
        obtain ⟨hk0, hk1, hk2, hk3, o_q⟩ := hj
        have fx16 : xT 16 = .bool (rputB l p d base size head tt x) := hL _ (List.mem_of_getElem? (i := 13) rfl)
        obtain ⟨A_v, c_v, fy, hk4, o_v⟩ : StaR w9.heap.size (w1.heap.size) 39 9 1 n' ((rputM l p d base size head tt x).flatMap fun x : ByteArray => [Value.string x]) (fun A c => .agg #[.slice A n' c]) (fun A c => [.slice A n' c]) w10 (xT 36) := hSt _ (List.mem_of_getElem? (i := 0) rfl)
        clear fy
        have hk5 : Blk w10 (w1.heap.size + 1) 69 [.int .i64 base, .int .i64 size, .int .i64 head, .int .i64 (rputT l p d base size head tt x)] := hSt _ (List.mem_of_getElem? (i := 1) rfl)
        simp only [List.map, putAll, fx16]
        have k10 : Below w.heap.size w w10 := k9.trans hb
        have p10 : w9.heap.size ≤ w10.heap.size := hb.size
        have bl0 := Nat.lt_of_lt_of_le bl0 hb.size
        have bl1 := Nat.lt_of_lt_of_le bl1 hb.size
        have bl2 := Nat.lt_of_lt_of_le bl2 hb.size
        have bl3 := Nat.lt_of_lt_of_le bl3 hb.size
        have bl4 := Nat.lt_of_lt_of_le bl4 hb.size
        have bl5 := Nat.lt_of_lt_of_le bl5 hb.size
        replace r_a := r_a.below hb
        replace r_b := r_b.below hb
        replace r_p := r_p.below hb
        have r_q := Reads.of_own o_q
        have r_v := Reads.of_own o_v
        have u_v := fun k hk => (o_v.lt k hk).2
        have bx0_0 : w10.cell? ⟨w.heap.size, 0, none⟩ = some (.slice A' n' c') := (hk0.cell 0).trans rfl
        have fz0_0 := hk0.frozen 0
        have bx1_0 : w10.cell? ⟨w.heap.size + 1, 0, none⟩ = some (.int .i64 base) := (hk1.cell 0).trans rfl
        have fz1_0 := hk1.frozen 0
        have bx1_1 : w10.cell? ⟨w.heap.size + 1, 1, none⟩ = some (.int .i64 size) := (hk1.cell 1).trans rfl
        have fz1_1 := hk1.frozen 1
        have bx1_2 : w10.cell? ⟨w.heap.size + 1, 2, none⟩ = some (.int .i64 head) := (hk1.cell 2).trans rfl
        have fz1_2 := hk1.frozen 2
        have bx1_3 : w10.cell? ⟨w.heap.size + 1, 3, none⟩ = some (.int .i64 tail) := (hk1.cell 3).trans rfl
        have fz1_3 := hk1.frozen 3
        have bx2_0 : w10.cell? ⟨w.heap.size + 1 + 1, 0, none⟩ = some (.slice none 0 0) := (hk2.cell 0).trans rfl
        have fz2_0 := hk2.frozen 0
        have bx3_0 : w10.cell? ⟨w.heap.size + 1 + 1 + 1, 0, none⟩ = some (.int .i64 0) := (hk3.cell 0).trans rfl
        have fz3_0 := hk3.frozen 0
        have bx3_1 : w10.cell? ⟨w.heap.size + 1 + 1 + 1, 1, none⟩ = some (.int .i64 0) := (hk3.cell 1).trans rfl
        have fz3_1 := hk3.frozen 1
        have bx3_2 : w10.cell? ⟨w.heap.size + 1 + 1 + 1, 2, none⟩ = some (.int .i64 0) := (hk3.cell 2).trans rfl
        have fz3_2 := hk3.frozen 2
        have bx3_3 : w10.cell? ⟨w.heap.size + 1 + 1 + 1, 3, none⟩ = some (.int .i64 0) := (hk3.cell 3).trans rfl
        have fz3_3 := hk3.frozen 3
        have bx4_0 : w10.cell? ⟨w1.heap.size, 0, none⟩ = some (.slice A_v n' c_v) := (hk4.cell 0).trans rfl
        have fz4_0 := hk4.frozen 0
        have bx5_0 : w10.cell? ⟨w1.heap.size + 1, 0, none⟩ = some (.int .i64 base) := (hk5.cell 0).trans rfl
        have fz5_0 := hk5.frozen 0
        have bx5_1 : w10.cell? ⟨w1.heap.size + 1, 1, none⟩ = some (.int .i64 size) := (hk5.cell 1).trans rfl
        have fz5_1 := hk5.frozen 1
        have bx5_2 : w10.cell? ⟨w1.heap.size + 1, 2, none⟩ = some (.int .i64 head) := (hk5.cell 2).trans rfl
        have fz5_2 := hk5.frozen 2
        have bx5_3 : w10.cell? ⟨w1.heap.size + 1, 3, none⟩ = some (.int .i64 (rputT l p d base size head tt x)) := (hk5.cell 3).trans rfl
        have fz5_3 := hk5.frozen 3
        clear hL hSt hb hz fx16
        rw [HD.out]
        (try clear o_q)
        (try clear r_q)
        go_wp2_with fail
        go_roundw
        case rel => exact ⟨k + 1, (rputM l p d base size head tt x), (rputT l p d base size head tt x), A_v, c_v, by omega, by go_num, hT, HPL, HST, k10, hk0, hk1, hk2, hk3, hk4, hk5, own_base o_v (by omega)⟩
        case measure => simp [intOf]; omega
    · have hfin : paG l d base size head es pg tail = some (p, tt) := by rw [← hsc.out, List.drop_eq_nil_of_le (by rw [HN3.out]; omega)]; rfl
      have HB := Lib.hid (pa_some hfin)
      clear hfin
      have bx0_0 : w9.cell? ⟨w.heap.size, 0, none⟩ = some (.slice A' n' c') := (hk0.cell 0).trans rfl
      have fz0_0 := hk0.frozen 0
      have bx1_0 : w9.cell? ⟨w.heap.size + 1, 0, none⟩ = some (.int .i64 base) := (hk1.cell 0).trans rfl
      have fz1_0 := hk1.frozen 0
      have bx1_1 : w9.cell? ⟨w.heap.size + 1, 1, none⟩ = some (.int .i64 size) := (hk1.cell 1).trans rfl
      have fz1_1 := hk1.frozen 1
      have bx1_2 : w9.cell? ⟨w.heap.size + 1, 2, none⟩ = some (.int .i64 head) := (hk1.cell 2).trans rfl
      have fz1_2 := hk1.frozen 2
      have bx1_3 : w9.cell? ⟨w.heap.size + 1, 3, none⟩ = some (.int .i64 tail) := (hk1.cell 3).trans rfl
      have fz1_3 := hk1.frozen 3
      have bx2_0 : w9.cell? ⟨w.heap.size + 1 + 1, 0, none⟩ = some (.slice none 0 0) := (hk2.cell 0).trans rfl
      have fz2_0 := hk2.frozen 0
      have bx3_0 : w9.cell? ⟨w.heap.size + 1 + 1 + 1, 0, none⟩ = some (.int .i64 0) := (hk3.cell 0).trans rfl
      have fz3_0 := hk3.frozen 0
      have bx3_1 : w9.cell? ⟨w.heap.size + 1 + 1 + 1, 1, none⟩ = some (.int .i64 0) := (hk3.cell 1).trans rfl
      have fz3_1 := hk3.frozen 1
      have bx3_2 : w9.cell? ⟨w.heap.size + 1 + 1 + 1, 2, none⟩ = some (.int .i64 0) := (hk3.cell 2).trans rfl
      have fz3_2 := hk3.frozen 2
      have bx3_3 : w9.cell? ⟨w.heap.size + 1 + 1 + 1, 3, none⟩ = some (.int .i64 0) := (hk3.cell 3).trans rfl
      have fz3_3 := hk3.frozen 3
      have bx4_0 : w9.cell? ⟨w1.heap.size, 0, none⟩ = some (.slice A4 n' c4) := (hk4.cell 0).trans rfl
      have fz4_0 := hk4.frozen 0
      have bx5_0 : w9.cell? ⟨w1.heap.size + 1, 0, none⟩ = some (.int .i64 base) := (hk5.cell 0).trans rfl
      have fz5_0 := hk5.frozen 0
      have bx5_1 : w9.cell? ⟨w1.heap.size + 1, 1, none⟩ = some (.int .i64 size) := (hk5.cell 1).trans rfl
      have fz5_1 := hk5.frozen 1
      have bx5_2 : w9.cell? ⟨w1.heap.size + 1, 2, none⟩ = some (.int .i64 head) := (hk5.cell 2).trans rfl
      have fz5_2 := hk5.frozen 2
      have bx5_3 : w9.cell? ⟨w1.heap.size + 1, 3, none⟩ = some (.int .i64 tt) := (hk5.cell 3).trans rfl
      have fz5_3 := hk5.frozen 3
      go_wp2_with fail
      have hBB : w.heap.size ≤ w9.heap.size := by omega
      refine wp_region_slotsS (w.heap.size) [(44, fun _ v => v = .agg #[.slice A4 n' c4]), (45, fun _ v => v = .agg #[.int .i64 base, .int .i64 size, .int .i64 head, .int .i64 tt]), (12, fun _ v => v = .bool true)] [⟨2, 44, fun u => Blk u (w.heap.size + 1 + 1) 39 [.slice none 0 0], fun u _ => Blk u (w.heap.size + 1 + 1) 39 [.slice A4 n' c4]⟩, ⟨3, 45, fun u => Blk u (w.heap.size + 1 + 1 + 1) 69 [.int .i64 0, .int .i64 0, .int .i64 0, .int .i64 0], fun u _ => Blk u (w.heap.size + 1 + 1 + 1) 69 [.int .i64 base, .int .i64 size, .int .i64 head, .int .i64 tt]⟩] (fun u => Blk u (w.heap.size) 39 [.slice A' n' c'] ∧ Blk u (w.heap.size + 1) 69 [.int .i64 base, .int .i64 size, .int .i64 head, .int .i64 tail] ∧ Blk u (w1.heap.size) 39 [.slice A4 n' c4] ∧ Blk u (w1.heap.size + 1) 69 [.int .i64 base, .int .i64 size, .int .i64 head, .int .i64 tt] ∧ u.ownsRow (w.heap.size + 1 + 1 + 1 + 1) 9 1 (.slice A4 n' c4) n' (p.flatMap fun x : ByteArray => [Value.string x])) (by kernel_rfl) hBB (by kernel_rfl) (by kernel_rfl) (by kernel_rfl) (by kernel_rfl) ?_ ?_ ?_ ?_ ?_ ?_ ?_
      · intro p hp
        simp only [List.mem_cons, List.not_mem_nil, or_false] at hp
        rcases hp with rfl | rfl | rfl
        all_goals (intro u u' v hb hv; first | exact hv | exact BoxP.keep hv hb | exact RowP.keep hv hb)
      · intro s hs u u' hb
        simp only [List.mem_cons, List.not_mem_nil, or_false] at hs
        rcases hs with rfl | rfl
        all_goals (refine ⟨fun h => ?_, fun _ h => ?_⟩ <;> first | exact h | exact StoP.keep h hb | exact StoR.keep h hb | exact Blk.ext h hb | exact StaR.keep h hb)
      · intro s hs
        simp only [List.mem_cons, List.not_mem_nil, or_false] at hs
        rcases hs with rfl | rfl
        all_goals first | trivial | exact hk2 | exact hk3
      · exact ⟨hk0, hk1, hk4, hk5, o_q⟩
      · intro u u' hb hj
        obtain ⟨j0, j1, j2, j3, j4⟩ := hj
        exact ⟨(j0.ext hb), (j1.ext hb), (j2.ext hb), (j3.ext hb), (own_ext j4 hb)⟩
      · intro hGk hSk hJk
        refine allStep_cons (stepS_plain hGk hSk hBB hJk (by kernel_rfl) rfl ?_) ?_
        · intro a u hb hz hj hl hp K Q hK
          have e13 : a.tmps[13]?.getD undef = .pointer (some ⟨w1.heap.size, 0, none⟩) := gd (hl 13 (by kernel_rfl))
          obtain ⟨j0, j1, j2, j3, j4⟩ := hj
          have hBb := j2
          have gb0 : u.cell? ⟨w1.heap.size, 0, none⟩ = some (.slice A4 n' c4) := (hBb.cell 0).trans rfl
          go_simp
          exact hK _ _ (Below.refl _ _) (by intro d hd; cases hd; exact rfl)
        refine allStep_cons (stepS_plain hGk hSk hBB hJk (by kernel_rfl) rfl ?_) ?_
        · intro a u hb hz hj hl hp K Q hK
          have e14 : a.tmps[14]?.getD undef = .pointer (some ⟨w1.heap.size + 1, 0, none⟩) := gd (hl 14 (by kernel_rfl))
          obtain ⟨j0, j1, j2, j3, j4⟩ := hj
          have hBb := j3
          have gb0 : u.cell? ⟨w1.heap.size + 1, 0, none⟩ = some (.int .i64 base) := (hBb.cell 0).trans rfl
          have gb1 : u.cell? ⟨w1.heap.size + 1, 1, none⟩ = some (.int .i64 size) := (hBb.cell 1).trans rfl
          have gb2 : u.cell? ⟨w1.heap.size + 1, 2, none⟩ = some (.int .i64 head) := (hBb.cell 2).trans rfl
          have gb3 : u.cell? ⟨w1.heap.size + 1, 3, none⟩ = some (.int .i64 tt) := (hBb.cell 3).trans rfl
          go_simp
          exact hK _ _ (Below.refl _ _) (by intro d hd; cases hd; exact rfl)
        refine allStep_cons (stepS_store (ChgA (w.heap.size + 1 + 1)) (fun _ _ hc hb => hc.below (by omega) hb) (fun _ _ hc => hc.size) (hold_rel ?_) ?_ ?_ rfl rfl ?_) ?_
        · intro p hp
          simp only [List.mem_cons, List.not_mem_nil, or_false] at hp
          rcases hp with rfl | rfl | rfl
          all_goals (intro u u' v hb hv; first | exact hv | exact BoxP.chgA hv hb (by omega) | exact RowP.chgA hv hb (by omega))
        · intro s hs hne u u' hb
          simp only [List.mem_cons, List.not_mem_nil, or_false] at hs
          rcases hs with rfl | rfl
          all_goals first | exact absurd (by rfl) hne | (refine ⟨fun h => ?_, fun _ h => ?_⟩ <;> first | exact h | exact Blk.chgA h hb (by omega) | exact StoP.chgA h hb (by omega) | exact StoR.chgA h hb (by omega) | exact StaR.chgA h hb (by omega) (by omega))
        · intro u u' hb hj
          obtain ⟨j0, j1, j2, j3, j4⟩ := hj
          exact ⟨(j0.chgA hb (by omega)), (j1.chgA hb (by omega)), (j2.chgA hb (by omega)), (j3.chgA hb (by omega)), (own_chgA j4 hb (by first | exact own_ty o_q hk2 (by decide) | exact fun k hk => by have h1 := o_q.lt k hk; omega))⟩
        · intro a u hb hz hj hl hp K Q hK
          have e10 : a.tmps[10]?.getD undef = .pointer (some ⟨w.heap.size + 1 + 1, 0, none⟩) := gd (hl 10 (by kernel_rfl))
          have hBs : Blk u (w.heap.size + 1 + 1) 39 [.slice none 0 0] := hp _ (List.mem_of_getElem? (i := 0) rfl) (by kernel_rfl)
          have gs0 : u.cell? ⟨w.heap.size + 1 + 1, 0, none⟩ = some (.slice none 0 0) := (hBs.cell 0).trans rfl
          have f0 := hBs.frozen 0
          have e44 : a.tmps[44]?.getD undef = .agg #[.slice A4 n' c4] := gd (hl 44 (by kernel_rfl))
          go_simp
          refine hK undef _ ((ChgA.refl _ _).set 0 _) (fun s hs he => ?_)
          simp only [List.mem_cons, List.not_mem_nil, or_false] at hs
          rcases hs with rfl | rfl
          · exact (hBs.set_ 0 _)
          · exact absurd (show (3 : Nat) = 2 from he) (by decide)
        refine allStep_cons (stepS_store (ChgA (w.heap.size + 1 + 1 + 1)) (fun _ _ hc hb => hc.below (by omega) hb) (fun _ _ hc => hc.size) (hold_rel ?_) ?_ ?_ rfl rfl ?_) ?_
        · intro p hp
          simp only [List.mem_cons, List.not_mem_nil, or_false] at hp
          rcases hp with rfl | rfl | rfl
          all_goals (intro u u' v hb hv; first | exact hv | exact BoxP.chgA hv hb (by omega) | exact RowP.chgA hv hb (by omega))
        · intro s hs hne u u' hb
          simp only [List.mem_cons, List.not_mem_nil, or_false] at hs
          rcases hs with rfl | rfl
          all_goals first | exact absurd (by rfl) hne | (refine ⟨fun h => ?_, fun _ h => ?_⟩ <;> first | exact h | exact Blk.chgA h hb (by omega) | exact StoP.chgA h hb (by omega) | exact StoR.chgA h hb (by omega) | exact StaR.chgA h hb (by omega) (by omega))
        · intro u u' hb hj
          obtain ⟨j0, j1, j2, j3, j4⟩ := hj
          exact ⟨(j0.chgA hb (by omega)), (j1.chgA hb (by omega)), (j2.chgA hb (by omega)), (j3.chgA hb (by omega)), (own_chgA j4 hb (by first | exact own_ty o_q hk3 (by decide) | exact fun k hk => by have h1 := o_q.lt k hk; omega))⟩
        · intro a u hb hz hj hl hp K Q hK
          have e11 : a.tmps[11]?.getD undef = .pointer (some ⟨w.heap.size + 1 + 1 + 1, 0, none⟩) := gd (hl 11 (by kernel_rfl))
          have hBs : Blk u (w.heap.size + 1 + 1 + 1) 69 [.int .i64 0, .int .i64 0, .int .i64 0, .int .i64 0] := hp _ (List.mem_of_getElem? (i := 1) rfl) (by kernel_rfl)
          have gs0 : u.cell? ⟨w.heap.size + 1 + 1 + 1, 0, none⟩ = some (.int .i64 0) := (hBs.cell 0).trans rfl
          have gs1 : u.cell? ⟨w.heap.size + 1 + 1 + 1, 1, none⟩ = some (.int .i64 0) := (hBs.cell 1).trans rfl
          have gs2 : u.cell? ⟨w.heap.size + 1 + 1 + 1, 2, none⟩ = some (.int .i64 0) := (hBs.cell 2).trans rfl
          have gs3 : u.cell? ⟨w.heap.size + 1 + 1 + 1, 3, none⟩ = some (.int .i64 0) := (hBs.cell 3).trans rfl
          have f0 := hBs.frozen 0
          have f1 := hBs.frozen 1
          have f2 := hBs.frozen 2
          have f3 := hBs.frozen 3
          have e45 : a.tmps[45]?.getD undef = .agg #[.int .i64 base, .int .i64 size, .int .i64 head, .int .i64 tt] := gd (hl 45 (by kernel_rfl))
          go_simp
          refine hK undef _ (((((ChgA.refl _ _).set 0 _).set 1 _).set 2 _).set 3 _) (fun s hs he => ?_)
          simp only [List.mem_cons, List.not_mem_nil, or_false] at hs
          rcases hs with rfl | rfl
          · exact absurd (show (2 : Nat) = 3 from he) (by decide)
          · exact ((((hBs.set_ 0 _).set_ 1 _).set_ 2 _).set_ 3 _)
        refine allStep_cons (stepS_plain hGk hSk hBB hJk (by kernel_rfl) rfl ?_) ?_
        · intro a u hb hz hj hl hp K Q hK
          go_simp
          exact hK _ _ (Below.refl _ _) (by intro d hd; cases hd; exact rfl)
        exact allStep_nil
      intro xT w10 hb hz hj hL hSt
      clear bx0_0 fz0_0 bx1_0 fz1_0 bx1_1 fz1_1 bx1_2 fz1_2 bx1_3 fz1_3 bx2_0 fz2_0 bx3_0 fz3_0 bx3_1 fz3_1 bx3_2 fz3_2 bx3_3 fz3_3 bx4_0 fz4_0 bx5_0 fz5_0 bx5_1 fz5_1 bx5_2 fz5_2 bx5_3 fz5_3 hk0 hk1 hk2 hk3 hk4 hk5 r_q o_q
      obtain ⟨hk0, hk1, hk4, hk5, o_q⟩ := hj
      have fx12 : xT 12 = .bool true := hL _ (List.mem_of_getElem? (i := 2) rfl)
      have hk2 : Blk w10 (w.heap.size + 1 + 1) 39 [.slice A4 n' c4] := hSt _ (List.mem_of_getElem? (i := 0) rfl)
      have hk3 : Blk w10 (w.heap.size + 1 + 1 + 1) 69 [.int .i64 base, .int .i64 size, .int .i64 head, .int .i64 tt] := hSt _ (List.mem_of_getElem? (i := 1) rfl)
      simp only [List.map, putAll, fx12]
      have k10 : Below w.heap.size w w10 := k9.trans hb
      have p10 : w9.heap.size ≤ w10.heap.size := hb.size
      have bl0 := Nat.lt_of_lt_of_le bl0 hb.size
      have bl1 := Nat.lt_of_lt_of_le bl1 hb.size
      have bl2 := Nat.lt_of_lt_of_le bl2 hb.size
      have bl3 := Nat.lt_of_lt_of_le bl3 hb.size
      have bl4 := Nat.lt_of_lt_of_le bl4 hb.size
      have bl5 := Nat.lt_of_lt_of_le bl5 hb.size
      replace r_a := r_a.below hb
      replace r_b := r_b.below hb
      replace r_p := r_p.below hb
      have r_q := Reads.of_own o_q
      have bx0_0 : w10.cell? ⟨w.heap.size, 0, none⟩ = some (.slice A' n' c') := (hk0.cell 0).trans rfl
      have fz0_0 := hk0.frozen 0
      have bx1_0 : w10.cell? ⟨w.heap.size + 1, 0, none⟩ = some (.int .i64 base) := (hk1.cell 0).trans rfl
      have fz1_0 := hk1.frozen 0
      have bx1_1 : w10.cell? ⟨w.heap.size + 1, 1, none⟩ = some (.int .i64 size) := (hk1.cell 1).trans rfl
      have fz1_1 := hk1.frozen 1
      have bx1_2 : w10.cell? ⟨w.heap.size + 1, 2, none⟩ = some (.int .i64 head) := (hk1.cell 2).trans rfl
      have fz1_2 := hk1.frozen 2
      have bx1_3 : w10.cell? ⟨w.heap.size + 1, 3, none⟩ = some (.int .i64 tail) := (hk1.cell 3).trans rfl
      have fz1_3 := hk1.frozen 3
      have bx2_0 : w10.cell? ⟨w.heap.size + 1 + 1, 0, none⟩ = some (.slice A4 n' c4) := (hk2.cell 0).trans rfl
      have fz2_0 := hk2.frozen 0
      have bx3_0 : w10.cell? ⟨w.heap.size + 1 + 1 + 1, 0, none⟩ = some (.int .i64 base) := (hk3.cell 0).trans rfl
      have fz3_0 := hk3.frozen 0
      have bx3_1 : w10.cell? ⟨w.heap.size + 1 + 1 + 1, 1, none⟩ = some (.int .i64 size) := (hk3.cell 1).trans rfl
      have fz3_1 := hk3.frozen 1
      have bx3_2 : w10.cell? ⟨w.heap.size + 1 + 1 + 1, 2, none⟩ = some (.int .i64 head) := (hk3.cell 2).trans rfl
      have fz3_2 := hk3.frozen 2
      have bx3_3 : w10.cell? ⟨w.heap.size + 1 + 1 + 1, 3, none⟩ = some (.int .i64 tt) := (hk3.cell 3).trans rfl
      have fz3_3 := hk3.frozen 3
      have bx4_0 : w10.cell? ⟨w1.heap.size, 0, none⟩ = some (.slice A4 n' c4) := (hk4.cell 0).trans rfl
      have fz4_0 := hk4.frozen 0
      have bx5_0 : w10.cell? ⟨w1.heap.size + 1, 0, none⟩ = some (.int .i64 base) := (hk5.cell 0).trans rfl
      have fz5_0 := hk5.frozen 0
      have bx5_1 : w10.cell? ⟨w1.heap.size + 1, 1, none⟩ = some (.int .i64 size) := (hk5.cell 1).trans rfl
      have fz5_1 := hk5.frozen 1
      have bx5_2 : w10.cell? ⟨w1.heap.size + 1, 2, none⟩ = some (.int .i64 head) := (hk5.cell 2).trans rfl
      have fz5_2 := hk5.frozen 2
      have bx5_3 : w10.cell? ⟨w1.heap.size + 1, 3, none⟩ = some (.int .i64 tt) := (hk5.cell 3).trans rfl
      have fz5_3 := hk5.frozen 3
      clear hL hSt hb hz fx12
      go_wp2
      refine bodyPost_ret (v := .tuple #[.agg #[.slice A4 n' c4], .agg #[.int .i64 base, .int .i64 size, .int .i64 head, .int .i64 tt], .bool true]) (by simp [results, Try.results50, go_sem, bx2_0, bx3_0, bx3_1, bx3_2, bx3_3]) rfl ?_
      rw [HB.out.2.1]
      exact ⟨A4, c4, by rw [HB.out.1, HB.out.2.2], own_base o_q (by omega), k10⟩
end Go.Proofs.Ytnnlagmgdfhaiaa
