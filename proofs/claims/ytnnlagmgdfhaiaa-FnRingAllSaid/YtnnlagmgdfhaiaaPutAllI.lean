/- Contract of RingPutAll: impl. -/
import Derived.Test.YtnnlagmgdfhaiaaPutAll
namespace Go.Proofs.Ytnnlagmgdfhaiaa
set_option linter.unusedSimpArgs false
set_option linter.unusedVariables false
open Go.RowKit Go.ChangeShapes Go.WideShapes
set_option maxRecDepth 100000 in
set_option maxHeartbeats 8000000 in
theorem implRingPutAll_c (A A' A3 : Option Addr) (n c n' c' n3 c3 : Nat) (l : List Mapping) (pg es : List ByteArray) (w : World) (hn_a : l.length = n) (hn_b : pg.length = n') (hn_p : es.length = n3) (hs_a : n ≤ 1048576) (hs_b : n' ≤ 1048576) (hs_p : n3 ≤ 1048576) (r_a : Reads w w.heap.size 4 A n (l.flatMap Mapping.cells)) (r_b : Reads w w.heap.size 1 A' n' (pg.flatMap fun x : ByteArray => [Value.string x])) (r_p : Reads w w.heap.size 1 A3 n3 (es.flatMap fun x : ByteArray => [Value.string x])) (d base size head tail : Int) (hh : I64 head) (ht : I64 tail) (hi3 : ∀ x ∈ es, x.size ≤ 1048576) :
    Calls Try.prog 51 #[.slice A n c, .agg #[.slice A' n' c'], .int .i64 d, .agg #[.int .i64 base, .int .i64 size, .int .i64 head, .int .i64 tail], .slice A3 n3 c3] w fun e w' => ∃ A2 c2, e = .returned (.tuple #[.agg #[.slice A2 n' c2], .agg #[.int .i64 base, .int .i64 size, .int .i64 head, .int .i64 (paT l pg d base size head tail es)], .bool (paB l pg d base size head tail es)]) ∧ w'.ownsRow w.heap.size 9 1 (.slice A2 n' c2) n' ((paM l pg d base size head tail es).flatMap fun x : ByteArray => [Value.string x]) ∧ Below w.heap.size w w' := by
  have HN3 := Lib.hid hn_p
  have HI3 := Lib.hid hi3
  clear hi3
  have ra0 := r_a
  have rb0 := r_b
  have rp0 := r_p
  go_enter Try.func51, Try.ntmps51
  go_wp2_with fail
  have k0 : Below w.heap.size w ((((w.alloc (.cells #[.slice A' n' c'] 39)).alloc (.cells #[.int .i64 base, .int .i64 size, .int .i64 head, .int .i64 tail] 69)).alloc (.cells #[.slice none 0 0] 39)).alloc (.cells #[.int .i64 0, .int .i64 0, .int .i64 0, .int .i64 0] 69)) := by go_grown
  have bx0_0 : ((((w.alloc (.cells #[.slice A' n' c'] 39)).alloc (.cells #[.int .i64 base, .int .i64 size, .int .i64 head, .int .i64 tail] 69)).alloc (.cells #[.slice none 0 0] 39)).alloc (.cells #[.int .i64 0, .int .i64 0, .int .i64 0, .int .i64 0] 69)).cell? ⟨w.heap.size, 0, none⟩ = some (.slice A' n' c') := by simp [go_sem]
  have bl0 : w.heap.size < ((((w.alloc (.cells #[.slice A' n' c'] 39)).alloc (.cells #[.int .i64 base, .int .i64 size, .int .i64 head, .int .i64 tail] 69)).alloc (.cells #[.slice none 0 0] 39)).alloc (.cells #[.int .i64 0, .int .i64 0, .int .i64 0, .int .i64 0] 69)).heap.size := by go_size
  have hk0 : Blk ((((w.alloc (.cells #[.slice A' n' c'] 39)).alloc (.cells #[.int .i64 base, .int .i64 size, .int .i64 head, .int .i64 tail] 69)).alloc (.cells #[.slice none 0 0] 39)).alloc (.cells #[.int .i64 0, .int .i64 0, .int .i64 0, .int .i64 0] 69)) (w.heap.size) 39 [.slice A' n' c'] := by simpa using (((Blk.new w 39 [.slice A' n' c']).alloc (.cells #[.int .i64 base, .int .i64 size, .int .i64 head, .int .i64 tail] 69)).alloc (.cells #[.slice none 0 0] 39)).alloc (.cells #[.int .i64 0, .int .i64 0, .int .i64 0, .int .i64 0] 69)
  have bx1_0 : ((((w.alloc (.cells #[.slice A' n' c'] 39)).alloc (.cells #[.int .i64 base, .int .i64 size, .int .i64 head, .int .i64 tail] 69)).alloc (.cells #[.slice none 0 0] 39)).alloc (.cells #[.int .i64 0, .int .i64 0, .int .i64 0, .int .i64 0] 69)).cell? ⟨w.heap.size + 1, 0, none⟩ = some (.int .i64 base) := by simp [go_sem]
  have bx1_1 : ((((w.alloc (.cells #[.slice A' n' c'] 39)).alloc (.cells #[.int .i64 base, .int .i64 size, .int .i64 head, .int .i64 tail] 69)).alloc (.cells #[.slice none 0 0] 39)).alloc (.cells #[.int .i64 0, .int .i64 0, .int .i64 0, .int .i64 0] 69)).cell? ⟨w.heap.size + 1, 1, none⟩ = some (.int .i64 size) := by simp [go_sem]
  have bx1_2 : ((((w.alloc (.cells #[.slice A' n' c'] 39)).alloc (.cells #[.int .i64 base, .int .i64 size, .int .i64 head, .int .i64 tail] 69)).alloc (.cells #[.slice none 0 0] 39)).alloc (.cells #[.int .i64 0, .int .i64 0, .int .i64 0, .int .i64 0] 69)).cell? ⟨w.heap.size + 1, 2, none⟩ = some (.int .i64 head) := by simp [go_sem]
  have bx1_3 : ((((w.alloc (.cells #[.slice A' n' c'] 39)).alloc (.cells #[.int .i64 base, .int .i64 size, .int .i64 head, .int .i64 tail] 69)).alloc (.cells #[.slice none 0 0] 39)).alloc (.cells #[.int .i64 0, .int .i64 0, .int .i64 0, .int .i64 0] 69)).cell? ⟨w.heap.size + 1, 3, none⟩ = some (.int .i64 tail) := by simp [go_sem]
  have bl1 : w.heap.size + 1 < ((((w.alloc (.cells #[.slice A' n' c'] 39)).alloc (.cells #[.int .i64 base, .int .i64 size, .int .i64 head, .int .i64 tail] 69)).alloc (.cells #[.slice none 0 0] 39)).alloc (.cells #[.int .i64 0, .int .i64 0, .int .i64 0, .int .i64 0] 69)).heap.size := by go_size
  have hk1 : Blk ((((w.alloc (.cells #[.slice A' n' c'] 39)).alloc (.cells #[.int .i64 base, .int .i64 size, .int .i64 head, .int .i64 tail] 69)).alloc (.cells #[.slice none 0 0] 39)).alloc (.cells #[.int .i64 0, .int .i64 0, .int .i64 0, .int .i64 0] 69)) (w.heap.size + 1) 69 [.int .i64 base, .int .i64 size, .int .i64 head, .int .i64 tail] := by simpa using ((Blk.new (w.alloc (.cells #[.slice A' n' c'] 39)) 69 [.int .i64 base, .int .i64 size, .int .i64 head, .int .i64 tail]).alloc (.cells #[.slice none 0 0] 39)).alloc (.cells #[.int .i64 0, .int .i64 0, .int .i64 0, .int .i64 0] 69)
  have bx2_0 : ((((w.alloc (.cells #[.slice A' n' c'] 39)).alloc (.cells #[.int .i64 base, .int .i64 size, .int .i64 head, .int .i64 tail] 69)).alloc (.cells #[.slice none 0 0] 39)).alloc (.cells #[.int .i64 0, .int .i64 0, .int .i64 0, .int .i64 0] 69)).cell? ⟨w.heap.size + 1 + 1, 0, none⟩ = some (.slice none 0 0) := by simp [go_sem]
  have bl2 : w.heap.size + 1 + 1 < ((((w.alloc (.cells #[.slice A' n' c'] 39)).alloc (.cells #[.int .i64 base, .int .i64 size, .int .i64 head, .int .i64 tail] 69)).alloc (.cells #[.slice none 0 0] 39)).alloc (.cells #[.int .i64 0, .int .i64 0, .int .i64 0, .int .i64 0] 69)).heap.size := by go_size
  have hk2 : Blk ((((w.alloc (.cells #[.slice A' n' c'] 39)).alloc (.cells #[.int .i64 base, .int .i64 size, .int .i64 head, .int .i64 tail] 69)).alloc (.cells #[.slice none 0 0] 39)).alloc (.cells #[.int .i64 0, .int .i64 0, .int .i64 0, .int .i64 0] 69)) (w.heap.size + 1 + 1) 39 [.slice none 0 0] := by simpa using (Blk.new ((w.alloc (.cells #[.slice A' n' c'] 39)).alloc (.cells #[.int .i64 base, .int .i64 size, .int .i64 head, .int .i64 tail] 69)) 39 [.slice none 0 0]).alloc (.cells #[.int .i64 0, .int .i64 0, .int .i64 0, .int .i64 0] 69)
  have bx3_0 : ((((w.alloc (.cells #[.slice A' n' c'] 39)).alloc (.cells #[.int .i64 base, .int .i64 size, .int .i64 head, .int .i64 tail] 69)).alloc (.cells #[.slice none 0 0] 39)).alloc (.cells #[.int .i64 0, .int .i64 0, .int .i64 0, .int .i64 0] 69)).cell? ⟨w.heap.size + 1 + 1 + 1, 0, none⟩ = some (.int .i64 0) := by simp [go_sem]
  have bx3_1 : ((((w.alloc (.cells #[.slice A' n' c'] 39)).alloc (.cells #[.int .i64 base, .int .i64 size, .int .i64 head, .int .i64 tail] 69)).alloc (.cells #[.slice none 0 0] 39)).alloc (.cells #[.int .i64 0, .int .i64 0, .int .i64 0, .int .i64 0] 69)).cell? ⟨w.heap.size + 1 + 1 + 1, 1, none⟩ = some (.int .i64 0) := by simp [go_sem]
  have bx3_2 : ((((w.alloc (.cells #[.slice A' n' c'] 39)).alloc (.cells #[.int .i64 base, .int .i64 size, .int .i64 head, .int .i64 tail] 69)).alloc (.cells #[.slice none 0 0] 39)).alloc (.cells #[.int .i64 0, .int .i64 0, .int .i64 0, .int .i64 0] 69)).cell? ⟨w.heap.size + 1 + 1 + 1, 2, none⟩ = some (.int .i64 0) := by simp [go_sem]
  have bx3_3 : ((((w.alloc (.cells #[.slice A' n' c'] 39)).alloc (.cells #[.int .i64 base, .int .i64 size, .int .i64 head, .int .i64 tail] 69)).alloc (.cells #[.slice none 0 0] 39)).alloc (.cells #[.int .i64 0, .int .i64 0, .int .i64 0, .int .i64 0] 69)).cell? ⟨w.heap.size + 1 + 1 + 1, 3, none⟩ = some (.int .i64 0) := by simp [go_sem]
  have bl3 : w.heap.size + 1 + 1 + 1 < ((((w.alloc (.cells #[.slice A' n' c'] 39)).alloc (.cells #[.int .i64 base, .int .i64 size, .int .i64 head, .int .i64 tail] 69)).alloc (.cells #[.slice none 0 0] 39)).alloc (.cells #[.int .i64 0, .int .i64 0, .int .i64 0, .int .i64 0] 69)).heap.size := by go_size
  have hk3 : Blk ((((w.alloc (.cells #[.slice A' n' c'] 39)).alloc (.cells #[.int .i64 base, .int .i64 size, .int .i64 head, .int .i64 tail] 69)).alloc (.cells #[.slice none 0 0] 39)).alloc (.cells #[.int .i64 0, .int .i64 0, .int .i64 0, .int .i64 0] 69)) (w.heap.size + 1 + 1 + 1) 69 [.int .i64 0, .int .i64 0, .int .i64 0, .int .i64 0] := by simpa using Blk.new (((w.alloc (.cells #[.slice A' n' c'] 39)).alloc (.cells #[.int .i64 base, .int .i64 size, .int .i64 head, .int .i64 tail] 69)).alloc (.cells #[.slice none 0 0] 39)) 69 [.int .i64 0, .int .i64 0, .int .i64 0, .int .i64 0]
  have r_a := r_a.below k0
  have r_b := r_b.below k0
  have r_p := r_p.below k0
  have p0 := k0.size
  generalize hW0 : ((((w.alloc (.cells #[.slice A' n' c'] 39)).alloc (.cells #[.int .i64 base, .int .i64 size, .int .i64 head, .int .i64 tail] 69)).alloc (.cells #[.slice none 0 0] 39)).alloc (.cells #[.int .i64 0, .int .i64 0, .int .i64 0, .int .i64 0] 69)) = w0 at *
  clear hW0
  clear bx0_0 bx1_0 bx1_1 bx1_2 bx1_3 bx2_0 bx3_0 bx3_1 bx3_2 bx3_3
  have bx0_0 : w0.cell? ⟨w.heap.size, 0, none⟩ = some (.slice A' n' c') := (hk0.cell 0).trans rfl
  have fz0_0 := hk0.frozen 0
  have bx1_0 : w0.cell? ⟨w.heap.size + 1, 0, none⟩ = some (.int .i64 base) := (hk1.cell 0).trans rfl
  have fz1_0 := hk1.frozen 0
  have bx1_1 : w0.cell? ⟨w.heap.size + 1, 1, none⟩ = some (.int .i64 size) := (hk1.cell 1).trans rfl
  have fz1_1 := hk1.frozen 1
  have bx1_2 : w0.cell? ⟨w.heap.size + 1, 2, none⟩ = some (.int .i64 head) := (hk1.cell 2).trans rfl
  have fz1_2 := hk1.frozen 2
  have bx1_3 : w0.cell? ⟨w.heap.size + 1, 3, none⟩ = some (.int .i64 tail) := (hk1.cell 3).trans rfl
  have fz1_3 := hk1.frozen 3
  have bx2_0 : w0.cell? ⟨w.heap.size + 1 + 1, 0, none⟩ = some (.slice none 0 0) := (hk2.cell 0).trans rfl
  have fz2_0 := hk2.frozen 0
  have bx3_0 : w0.cell? ⟨w.heap.size + 1 + 1 + 1, 0, none⟩ = some (.int .i64 0) := (hk3.cell 0).trans rfl
  have fz3_0 := hk3.frozen 0
  have bx3_1 : w0.cell? ⟨w.heap.size + 1 + 1 + 1, 1, none⟩ = some (.int .i64 0) := (hk3.cell 1).trans rfl
  have fz3_1 := hk3.frozen 1
  have bx3_2 : w0.cell? ⟨w.heap.size + 1 + 1 + 1, 2, none⟩ = some (.int .i64 0) := (hk3.cell 2).trans rfl
  have fz3_2 := hk3.frozen 2
  have bx3_3 : w0.cell? ⟨w.heap.size + 1 + 1 + 1, 3, none⟩ = some (.int .i64 0) := (hk3.cell 3).trans rfl
  have fz3_3 := hk3.frozen 3
  have hBB : w.heap.size ≤ w0.heap.size := by omega
  refine wp_region_slotsS (w.heap.size) [(18, fun _ v => v = .agg #[.slice A' n' c']), (19, RowP w0.heap.size 9 1 n' (pg.flatMap fun x : ByteArray => [Value.string x]) (fun A c => .agg #[.slice A n' c])), (20, fun _ v => v = .agg #[.int .i64 base, .int .i64 size, .int .i64 head, .int .i64 tail]), (13, BoxP w0.heap.size 39 1), (14, BoxP w0.heap.size 69 4)] [⟨5, 13, fun _ => True, StoR w0.heap.size 39 9 1 n' (pg.flatMap fun x : ByteArray => [Value.string x]) (fun A c => [.slice A n' c])⟩, ⟨6, 14, fun _ => True, StoP w0.heap.size 69 [.int .i64 base, .int .i64 size, .int .i64 head, .int .i64 tail]⟩] (fun u => Blk u (w.heap.size) 39 [.slice A' n' c'] ∧ Blk u (w.heap.size + 1) 69 [.int .i64 base, .int .i64 size, .int .i64 head, .int .i64 tail] ∧ Blk u (w.heap.size + 1 + 1) 39 [.slice none 0 0] ∧ Blk u (w.heap.size + 1 + 1 + 1) 69 [.int .i64 0, .int .i64 0, .int .i64 0, .int .i64 0]) (by kernel_rfl) hBB (by kernel_rfl) (by kernel_rfl) (by kernel_rfl) (by kernel_rfl) ?_ ?_ ?_ ?_ ?_ ?_ ?_
  · intro p hp
    simp only [List.mem_cons, List.not_mem_nil, or_false] at hp
    rcases hp with rfl | rfl | rfl | rfl | rfl
    all_goals (intro u u' v hb hv; first | exact hv | exact BoxP.keep hv hb | exact RowP.keep hv hb)
  · intro s hs u u' hb
    simp only [List.mem_cons, List.not_mem_nil, or_false] at hs
    rcases hs with rfl | rfl
    all_goals (refine ⟨fun h => ?_, fun _ h => ?_⟩ <;> first | exact h | exact StoP.keep h hb | exact StoR.keep h hb | exact Blk.ext h hb | exact StaR.keep h hb)
  · intro s hs
    simp only [List.mem_cons, List.not_mem_nil, or_false] at hs
    rcases hs with rfl | rfl
    all_goals first | trivial
  · exact ⟨hk0, hk1, hk2, hk3⟩
  · intro u u' hb hj
    obtain ⟨j0, j1, j2, j3⟩ := hj
    exact ⟨(j0.ext hb), (j1.ext hb), (j2.ext hb), (j3.ext hb)⟩
  · intro hGk hSk hJk
    refine allStep_cons (stepS_plain hGk hSk hBB hJk (by kernel_rfl) rfl ?_) ?_
    · intro a u hb hz hj hl hp K Q hK
      have e6 : a.tmps[6]?.getD undef = .pointer (some ⟨w.heap.size, 0, none⟩) := gd (hl 6 (by kernel_rfl))
      obtain ⟨j0, j1, j2, j3⟩ := hj
      have hBb := j0
      have gb0 : u.cell? ⟨w.heap.size, 0, none⟩ = some (.slice A' n' c') := (hBb.cell 0).trans rfl
      go_simp
      exact hK _ _ (Below.refl _ _) (by intro d hd; cases hd; exact rfl)
    refine allStep_cons (stepS_plain hGk hSk hBB hJk (by kernel_rfl) rfl ?_) ?_
    · intro a u hb hz hj hl hp K Q hK
      have e18 : a.tmps[18]?.getD undef = .agg #[.slice A' n' c'] := gd (hl 18 (by kernel_rfl))
      go_simp
      refine (copyMemory_c _ _ _ pg _ hn_b (by omega) ((r_b.below (hb.mono (by omega))).more (by omega))).mono ?_
      rintro e u1 ⟨A_q, c_q, rfl, o_q, hb1⟩
      exact hK _ _ hb1 (by intro d hd; cases hd; exact ⟨A_q, c_q, rfl, own_base o_q (by omega)⟩)
    refine allStep_cons (stepS_plain hGk hSk hBB hJk (by kernel_rfl) rfl ?_) ?_
    · intro a u hb hz hj hl hp K Q hK
      have e8 : a.tmps[8]?.getD undef = .pointer (some ⟨w.heap.size + 1, 0, none⟩) := gd (hl 8 (by kernel_rfl))
      obtain ⟨j0, j1, j2, j3⟩ := hj
      have hBb := j1
      have gb0 : u.cell? ⟨w.heap.size + 1, 0, none⟩ = some (.int .i64 base) := (hBb.cell 0).trans rfl
      have gb1 : u.cell? ⟨w.heap.size + 1, 1, none⟩ = some (.int .i64 size) := (hBb.cell 1).trans rfl
      have gb2 : u.cell? ⟨w.heap.size + 1, 2, none⟩ = some (.int .i64 head) := (hBb.cell 2).trans rfl
      have gb3 : u.cell? ⟨w.heap.size + 1, 3, none⟩ = some (.int .i64 tail) := (hBb.cell 3).trans rfl
      go_simp
      exact hK _ _ (Below.refl _ _) (by intro d hd; cases hd; exact rfl)
    refine allStep_cons (stepS_plain hGk hSk hBB hJk (by kernel_rfl) rfl ?_) ?_
    · intro a u hb hz hj hl hp K Q hK
      go_simp
      exact hK _ _ (by go_grown) (by intro d hd; cases hd; exact BoxP.new _ _ [.slice none 0 0] (by omega) rfl)
    refine allStep_cons (stepS_plain hGk hSk hBB hJk (by kernel_rfl) rfl ?_) ?_
    · intro a u hb hz hj hl hp K Q hK
      go_simp
      exact hK _ _ (by go_grown) (by intro d hd; cases hd; exact BoxP.new _ _ [.int .i64 0, .int .i64 0, .int .i64 0, .int .i64 0] (by omega) rfl)
    refine allStep_cons (stepS_store (Chg w0.heap.size 39) (fun _ _ hc hb => hc.below' (by omega) hb) (fun _ _ hc => hc.size) (hold_rel ?_) ?_ ?_ rfl rfl ?_) ?_
    · intro p hp
      simp only [List.mem_cons, List.not_mem_nil, or_false] at hp
      rcases hp with rfl | rfl | rfl | rfl | rfl
      all_goals (intro u u' v hb hv; first | exact hv | exact BoxP.chg hv hb | exact RowP.chg hv hb (by decide))
    · intro s hs hne u u' hb
      simp only [List.mem_cons, List.not_mem_nil, or_false] at hs
      rcases hs with rfl | rfl
      all_goals first | exact absurd (by rfl) hne | (refine ⟨fun h => ?_, fun _ h => ?_⟩ <;> first | exact h | exact StoP.chg h hb (by decide) | exact StoR.chg h hb (by decide) (by decide) | exact Blk.chgL h hb (by omega) | exact StaR.chgL h hb (by omega) (by decide))
    · intro u u' hb hj
      obtain ⟨j0, j1, j2, j3⟩ := hj
      exact ⟨(j0.chgL hb (by omega)), (j1.chgL hb (by omega)), (j2.chgL hb (by omega)), (j3.chgL hb (by omega))⟩
    · intro a u hb hz hj hl hp K Q hK
      obtain ⟨b, exb, hB, zs, hzl, hbk⟩ : BoxP w0.heap.size 39 1 u (a.tmps.getD 13 undef) := hl 13 (by kernel_rfl)
      have e13 := gd exb
      obtain ⟨A2, c2, ex19, o2⟩ : RowP w0.heap.size 9 1 n' (pg.flatMap fun x : ByteArray => [Value.string x]) (fun A c => .agg #[.slice A n' c]) u (a.tmps.getD 19 undef) := hl 19 (by kernel_rfl)
      have e19 := gd ex19
      obtain ⟨z0, rfl⟩ : ∃ z0, zs = [z0] := (by match zs, hzl with | [z0], _ => exact ⟨_, rfl⟩)
      have hlt := hbk.lt
      have g0 : u.cell? ⟨b, 0, none⟩ = some z0 := (hbk.cell 0).trans rfl
      have f0 := hbk.frozen 0
      go_simp
      refine hK undef _ ((Chg.refl _ _ _).set hbk hB 0 _) (fun s hs he => ?_)
      simp only [List.mem_cons, List.not_mem_nil, or_false] at hs
      rcases hs with rfl | rfl
      · exact ⟨b, A2, c2, exb, hB, (hbk.set_ 0 _), own_chg o2 ((Chg.refl _ _ _).set hbk hB 0 _) (by decide)⟩
      · exact absurd (show (6 : Nat) = 5 from he) (by decide)
    refine allStep_cons (stepS_store (Chg w0.heap.size 69) (fun _ _ hc hb => hc.below' (by omega) hb) (fun _ _ hc => hc.size) (hold_rel ?_) ?_ ?_ rfl rfl ?_) ?_
    · intro p hp
      simp only [List.mem_cons, List.not_mem_nil, or_false] at hp
      rcases hp with rfl | rfl | rfl | rfl | rfl
      all_goals (intro u u' v hb hv; first | exact hv | exact BoxP.chg hv hb | exact RowP.chg hv hb (by decide))
    · intro s hs hne u u' hb
      simp only [List.mem_cons, List.not_mem_nil, or_false] at hs
      rcases hs with rfl | rfl
      all_goals first | exact absurd (by rfl) hne | (refine ⟨fun h => ?_, fun _ h => ?_⟩ <;> first | exact h | exact StoP.chg h hb (by decide) | exact StoR.chg h hb (by decide) (by decide) | exact Blk.chgL h hb (by omega) | exact StaR.chgL h hb (by omega) (by decide))
    · intro u u' hb hj
      obtain ⟨j0, j1, j2, j3⟩ := hj
      exact ⟨(j0.chgL hb (by omega)), (j1.chgL hb (by omega)), (j2.chgL hb (by omega)), (j3.chgL hb (by omega))⟩
    · intro a u hb hz hj hl hp K Q hK
      obtain ⟨b, exb, hB, zs, hzl, hbk⟩ : BoxP w0.heap.size 69 4 u (a.tmps.getD 14 undef) := hl 14 (by kernel_rfl)
      have e14 := gd exb
      have e20 : a.tmps[20]?.getD undef = .agg #[.int .i64 base, .int .i64 size, .int .i64 head, .int .i64 tail] := gd (hl 20 (by kernel_rfl))
      obtain ⟨z0, z1, z2, z3, rfl⟩ : ∃ z0 z1 z2 z3, zs = [z0, z1, z2, z3] := (by match zs, hzl with | [z0, z1, z2, z3], _ => exact ⟨_, _, _, _, rfl⟩)
      have hlt := hbk.lt
      have g0 : u.cell? ⟨b, 0, none⟩ = some z0 := (hbk.cell 0).trans rfl
      have f0 := hbk.frozen 0
      have g1 : u.cell? ⟨b, 1, none⟩ = some z1 := (hbk.cell 1).trans rfl
      have f1 := hbk.frozen 1
      have g2 : u.cell? ⟨b, 2, none⟩ = some z2 := (hbk.cell 2).trans rfl
      have f2 := hbk.frozen 2
      have g3 : u.cell? ⟨b, 3, none⟩ = some z3 := (hbk.cell 3).trans rfl
      have f3 := hbk.frozen 3
      go_simp
      refine hK undef _ (((((Chg.refl _ _ _).set hbk hB 0 _).set (hbk.set_ 0 _) hB 1 _).set ((hbk.set_ 0 _).set_ 1 _) hB 2 _).set (((hbk.set_ 0 _).set_ 1 _).set_ 2 _) hB 3 _) (fun s hs he => ?_)
      simp only [List.mem_cons, List.not_mem_nil, or_false] at hs
      rcases hs with rfl | rfl
      · exact absurd (show (5 : Nat) = 6 from he) (by decide)
      · exact ⟨b, exb, hB, ((((hbk.set_ 0 _).set_ 1 _).set_ 2 _).set_ 3 _)⟩
    exact allStep_nil
  intro xT w1 hb hz hj hL hSt
  clear bx0_0 fz0_0 bx1_0 fz1_0 bx1_1 fz1_1 bx1_2 fz1_2 bx1_3 fz1_3 bx2_0 fz2_0 bx3_0 fz3_0 bx3_1 fz3_1 bx3_2 fz3_2 bx3_3 fz3_3 hk0 hk1 hk2 hk3
  obtain ⟨hk0, hk1, hk2, hk3⟩ := hj
  obtain ⟨bk_4, A_q, c_q, fx13, lo4, hk4, o_q⟩ : StoR w0.heap.size 39 9 1 n' (pg.flatMap fun x : ByteArray => [Value.string x]) (fun A c => [.slice A n' c]) w1 (xT 13) := hSt _ (List.mem_of_getElem? (i := 0) rfl)
  obtain ⟨bk_5, fx14, lo5, hk5⟩ : StoP w0.heap.size 69 [.int .i64 base, .int .i64 size, .int .i64 head, .int .i64 tail] w1 (xT 14) := hSt _ (List.mem_of_getElem? (i := 1) rfl)
  simp only [List.map, putAll, fx13, fx14]
  have bl4 := hk4.lt
  have bl5 := hk5.lt
  have k1 : Below w.heap.size w w1 := k0.trans hb
  have p1 : w0.heap.size ≤ w1.heap.size := hb.size
  have bl0 := Nat.lt_of_lt_of_le bl0 hb.size
  have bl1 := Nat.lt_of_lt_of_le bl1 hb.size
  have bl2 := Nat.lt_of_lt_of_le bl2 hb.size
  have bl3 := Nat.lt_of_lt_of_le bl3 hb.size
  replace r_a := r_a.below hb
  replace r_b := r_b.below hb
  replace r_p := r_p.below hb
  have nb_q_4 := own_ty o_q hk4 (by decide)
  have nb_q_5 := own_ty o_q hk5 (by decide)
  have r_q := Reads.of_own o_q
  have u_q := fun k hk => (o_q.lt k hk).2
  have bx0_0 : w1.cell? ⟨w.heap.size, 0, none⟩ = some (.slice A' n' c') := (hk0.cell 0).trans rfl
  have fz0_0 := hk0.frozen 0
  have bx1_0 : w1.cell? ⟨w.heap.size + 1, 0, none⟩ = some (.int .i64 base) := (hk1.cell 0).trans rfl
  have fz1_0 := hk1.frozen 0
  have bx1_1 : w1.cell? ⟨w.heap.size + 1, 1, none⟩ = some (.int .i64 size) := (hk1.cell 1).trans rfl
  have fz1_1 := hk1.frozen 1
  have bx1_2 : w1.cell? ⟨w.heap.size + 1, 2, none⟩ = some (.int .i64 head) := (hk1.cell 2).trans rfl
  have fz1_2 := hk1.frozen 2
  have bx1_3 : w1.cell? ⟨w.heap.size + 1, 3, none⟩ = some (.int .i64 tail) := (hk1.cell 3).trans rfl
  have fz1_3 := hk1.frozen 3
  have bx2_0 : w1.cell? ⟨w.heap.size + 1 + 1, 0, none⟩ = some (.slice none 0 0) := (hk2.cell 0).trans rfl
  have fz2_0 := hk2.frozen 0
  have bx3_0 : w1.cell? ⟨w.heap.size + 1 + 1 + 1, 0, none⟩ = some (.int .i64 0) := (hk3.cell 0).trans rfl
  have fz3_0 := hk3.frozen 0
  have bx3_1 : w1.cell? ⟨w.heap.size + 1 + 1 + 1, 1, none⟩ = some (.int .i64 0) := (hk3.cell 1).trans rfl
  have fz3_1 := hk3.frozen 1
  have bx3_2 : w1.cell? ⟨w.heap.size + 1 + 1 + 1, 2, none⟩ = some (.int .i64 0) := (hk3.cell 2).trans rfl
  have fz3_2 := hk3.frozen 2
  have bx3_3 : w1.cell? ⟨w.heap.size + 1 + 1 + 1, 3, none⟩ = some (.int .i64 0) := (hk3.cell 3).trans rfl
  have fz3_3 := hk3.frozen 3
  have bx4_0 : w1.cell? ⟨bk_4, 0, none⟩ = some (.slice A_q n' c_q) := (hk4.cell 0).trans rfl
  have fz4_0 := hk4.frozen 0
  have bx5_0 : w1.cell? ⟨bk_5, 0, none⟩ = some (.int .i64 base) := (hk5.cell 0).trans rfl
  have fz5_0 := hk5.frozen 0
  have bx5_1 : w1.cell? ⟨bk_5, 1, none⟩ = some (.int .i64 size) := (hk5.cell 1).trans rfl
  have fz5_1 := hk5.frozen 1
  have bx5_2 : w1.cell? ⟨bk_5, 2, none⟩ = some (.int .i64 head) := (hk5.cell 2).trans rfl
  have fz5_2 := hk5.frozen 2
  have bx5_3 : w1.cell? ⟨bk_5, 3, none⟩ = some (.int .i64 tail) := (hk5.cell 3).trans rfl
  have fz5_3 := hk5.frozen 3
  clear hL hSt hb hz fx13 fx14
  have hne := blk_ne hk4 hk5 (by decide)
  go_wp2_with fail
  go_loopw [23] (fun i wr => ∃ (k : Nat) (p : List ByteArray) (tt : Int) (A4 : Option Addr) (c4 : Nat), k ≤ n3 ∧ i = .int .i64 (k : Int) ∧ I64 tt ∧ Hid (p.length = n') ∧ Hid (paG l d base size head (es.drop k) p tt = paG l d base size head es pg tail) ∧ Below w.heap.size w wr ∧ Blk wr (w.heap.size) 39 [.slice A' n' c'] ∧ Blk wr (w.heap.size + 1) 69 [.int .i64 base, .int .i64 size, .int .i64 head, .int .i64 tail] ∧ Blk wr (w.heap.size + 1 + 1) 39 [.slice none 0 0] ∧ Blk wr (w.heap.size + 1 + 1 + 1) 69 [.int .i64 0, .int .i64 0, .int .i64 0, .int .i64 0] ∧ Blk wr (bk_4) 39 [.slice A4 n' c4] ∧ Blk wr (bk_5) 69 [.int .i64 base, .int .i64 size, .int .i64 head, .int .i64 tt] ∧ wr.ownsRow (w.heap.size + 1 + 1 + 1 + 1) 9 1 (.slice A4 n' c4) n' (p.flatMap fun x : ByteArray => [Value.string x])) (fun i _ => n3 - (intOf i).toNat)
  case atStart => exact ⟨0, pg, tail, A_q, c_q, Nat.zero_le _, rfl, ht, hn_b, rfl, k1, hk0, hk1, hk2, hk3, hk4, hk5, own_base o_q (by omega)⟩
  case round =>
    try clear bx0_0 fz0_0 bx1_0 fz1_0 bx1_1 fz1_1 bx1_2 fz1_2 bx1_3 fz1_3 bx2_0 fz2_0 bx3_0 fz3_0 bx3_1 fz3_1 bx3_2 fz3_2 bx3_3 fz3_3 bx4_0 fz4_0 bx5_0 fz5_0 bx5_1 fz5_1 bx5_2 fz5_2 bx5_3 fz5_3 hk0 hk1 hk2 hk3 hk4 hk5 r_a r_b r_p r_q o_q u_q
    obtain ⟨k, p, tt, A4, c4, hk, rfl, htt, hpl, hsc, hbw, hk0, hk1, hk2, hk3, hk4, hk5, o_q⟩ := hrel
    obtain ⟨w9, hw9⟩ : ∃ w9 : World, w9 = wr := ⟨_, rfl⟩
    subst hw9
    have k9 := hbw
    have bl0 := hk0.lt
    have bl1 := hk1.lt
    have bl2 := hk2.lt
    have bl3 := hk3.lt
    have bl4 := hk4.lt
    have bl5 := hk5.lt
    have p9 := hbw.size
    have r_a := ra0.below hbw
    have r_b := rb0.below hbw
    have r_p := rp0.below hbw
    have r_q := Reads.of_own o_q
    by_cases hlt : k < n3
    · skip
      obtain ⟨b3, o3, x, rfl, hb3, hxx, hcx⟩ := rp0.el (fun _ => rfl) (by decide) HN3.out hlt
      have c0 := (hbw.cell (p := ⟨b3, o3 + k, none⟩) hb3).trans (by simpa using hcx 0 _ rfl)
      have HXx := Lib.hid hxx
      clear hxx hcx
      have hE := HI3.out x (List.mem_of_getElem? HXx.out)
      have i0 : (0 : Int) ≤ (k : Int) := by omega
      have i1 : (k : Int) < (n3 : Int) := by omega
      have hst := (paG_step (l := l) (d := d) (base := base) (size := size) (head := head) (p := p) (t := tt) HXx.out)
      cases hd : rputB l p d base size head tt x
      · skip
        have hno : paG l d base size head es pg tail = none := by rw [← hsc.out, hst, hd]; rfl
        have HB := Lib.hid (pa_none hno)
        clear hno
        have HD := Lib.hid hd
        clear hd hst
        have bx0_0 : w9.cell? ⟨w.heap.size, 0, none⟩ = some (.slice A' n' c') := (hk0.cell 0).trans rfl
        have fz0_0 := hk0.frozen 0
        have bx1_0 : w9.cell? ⟨w.heap.size + 1, 0, none⟩ = some (.int .i64 base) := (hk1.cell 0).trans rfl
        have fz1_0 := hk1.frozen 0
        have bx1_1 : w9.cell? ⟨w.heap.size + 1, 1, none⟩ = some (.int .i64 size) := (hk1.cell 1).trans rfl
        have fz1_1 := hk1.frozen 1
        have bx1_2 : w9.cell? ⟨w.heap.size + 1, 2, none⟩ = some (.int .i64 head) := (hk1.cell 2).trans rfl
        have fz1_2 := hk1.frozen 2
        have bx1_3 : w9.cell? ⟨w.heap.size + 1, 3, none⟩ = some (.int .i64 tail) := (hk1.cell 3).trans rfl
        have fz1_3 := hk1.frozen 3
        have bx2_0 : w9.cell? ⟨w.heap.size + 1 + 1, 0, none⟩ = some (.slice none 0 0) := (hk2.cell 0).trans rfl
        have fz2_0 := hk2.frozen 0
        have bx3_0 : w9.cell? ⟨w.heap.size + 1 + 1 + 1, 0, none⟩ = some (.int .i64 0) := (hk3.cell 0).trans rfl
        have fz3_0 := hk3.frozen 0
        have bx3_1 : w9.cell? ⟨w.heap.size + 1 + 1 + 1, 1, none⟩ = some (.int .i64 0) := (hk3.cell 1).trans rfl
        have fz3_1 := hk3.frozen 1
        have bx3_2 : w9.cell? ⟨w.heap.size + 1 + 1 + 1, 2, none⟩ = some (.int .i64 0) := (hk3.cell 2).trans rfl
        have fz3_2 := hk3.frozen 2
        have bx3_3 : w9.cell? ⟨w.heap.size + 1 + 1 + 1, 3, none⟩ = some (.int .i64 0) := (hk3.cell 3).trans rfl
        have fz3_3 := hk3.frozen 3
        have bx4_0 : w9.cell? ⟨bk_4, 0, none⟩ = some (.slice A4 n' c4) := (hk4.cell 0).trans rfl
        have fz4_0 := hk4.frozen 0
        have bx5_0 : w9.cell? ⟨bk_5, 0, none⟩ = some (.int .i64 base) := (hk5.cell 0).trans rfl
        have fz5_0 := hk5.frozen 0
        have bx5_1 : w9.cell? ⟨bk_5, 1, none⟩ = some (.int .i64 size) := (hk5.cell 1).trans rfl
        have fz5_1 := hk5.frozen 1
        have bx5_2 : w9.cell? ⟨bk_5, 2, none⟩ = some (.int .i64 head) := (hk5.cell 2).trans rfl
        have fz5_2 := hk5.frozen 2
        have bx5_3 : w9.cell? ⟨bk_5, 3, none⟩ = some (.int .i64 tt) := (hk5.cell 3).trans rfl
        have fz5_3 := hk5.frozen 3
        go_wp2_with fail
        refine (implRingPut_c _ _ _ _ _ _ l p _ hn_a hpl.out hs_a hs_b (r_a.more (by omega)) (r_q.more (by omega)) _ _ _ _ _ _ hh htt hE).mono ?_
        rintro e w10 ⟨A_v, c_v, rfl, o_v, hb⟩
        have k10 : Below w.heap.size w w10 := ext_step k9 (by omega) hb
        have p10 := hb.size
        replace hk0 := hk0.ext hb
        replace hk1 := hk1.ext hb
        replace hk2 := hk2.ext hb
        replace hk3 := hk3.ext hb
        replace hk4 := hk4.ext hb
        replace hk5 := hk5.ext hb
        clear bx0_0 fz0_0 bx1_0 fz1_0 bx1_1 fz1_1 bx1_2 fz1_2 bx1_3 fz1_3 bx2_0 fz2_0 bx3_0 fz3_0 bx3_1 fz3_1 bx3_2 fz3_2 bx3_3 fz3_3 bx4_0 fz4_0 bx5_0 fz5_0 bx5_1 fz5_1 bx5_2 fz5_2 bx5_3 fz5_3
        have bx0_0 : w10.cell? ⟨w.heap.size, 0, none⟩ = some (.slice A' n' c') := (hk0.cell 0).trans rfl
        have fz0_0 := hk0.frozen 0
        have bx1_0 : w10.cell? ⟨w.heap.size + 1, 0, none⟩ = some (.int .i64 base) := (hk1.cell 0).trans rfl
        have fz1_0 := hk1.frozen 0
        have bx1_1 : w10.cell? ⟨w.heap.size + 1, 1, none⟩ = some (.int .i64 size) := (hk1.cell 1).trans rfl
        have fz1_1 := hk1.frozen 1
        have bx1_2 : w10.cell? ⟨w.heap.size + 1, 2, none⟩ = some (.int .i64 head) := (hk1.cell 2).trans rfl
        have fz1_2 := hk1.frozen 2
        have bx1_3 : w10.cell? ⟨w.heap.size + 1, 3, none⟩ = some (.int .i64 tail) := (hk1.cell 3).trans rfl
        have fz1_3 := hk1.frozen 3
        have bx2_0 : w10.cell? ⟨w.heap.size + 1 + 1, 0, none⟩ = some (.slice none 0 0) := (hk2.cell 0).trans rfl
        have fz2_0 := hk2.frozen 0
        have bx3_0 : w10.cell? ⟨w.heap.size + 1 + 1 + 1, 0, none⟩ = some (.int .i64 0) := (hk3.cell 0).trans rfl
        have fz3_0 := hk3.frozen 0
        have bx3_1 : w10.cell? ⟨w.heap.size + 1 + 1 + 1, 1, none⟩ = some (.int .i64 0) := (hk3.cell 1).trans rfl
        have fz3_1 := hk3.frozen 1
        have bx3_2 : w10.cell? ⟨w.heap.size + 1 + 1 + 1, 2, none⟩ = some (.int .i64 0) := (hk3.cell 2).trans rfl
        have fz3_2 := hk3.frozen 2
        have bx3_3 : w10.cell? ⟨w.heap.size + 1 + 1 + 1, 3, none⟩ = some (.int .i64 0) := (hk3.cell 3).trans rfl
        have fz3_3 := hk3.frozen 3
        have bx4_0 : w10.cell? ⟨bk_4, 0, none⟩ = some (.slice A4 n' c4) := (hk4.cell 0).trans rfl
        have fz4_0 := hk4.frozen 0
        have bx5_0 : w10.cell? ⟨bk_5, 0, none⟩ = some (.int .i64 base) := (hk5.cell 0).trans rfl
        have fz5_0 := hk5.frozen 0
        have bx5_1 : w10.cell? ⟨bk_5, 1, none⟩ = some (.int .i64 size) := (hk5.cell 1).trans rfl
        have fz5_1 := hk5.frozen 1
        have bx5_2 : w10.cell? ⟨bk_5, 2, none⟩ = some (.int .i64 head) := (hk5.cell 2).trans rfl
        have fz5_2 := hk5.frozen 2
        have bx5_3 : w10.cell? ⟨bk_5, 3, none⟩ = some (.int .i64 tt) := (hk5.cell 3).trans rfl
        have fz5_3 := hk5.frozen 3
        have bl0 := Nat.lt_of_lt_of_le bl0 hb.size
        have bl1 := Nat.lt_of_lt_of_le bl1 hb.size
        have bl2 := Nat.lt_of_lt_of_le bl2 hb.size
        have bl3 := Nat.lt_of_lt_of_le bl3 hb.size
        have bl4 := Nat.lt_of_lt_of_le bl4 hb.size
        have bl5 := Nat.lt_of_lt_of_le bl5 hb.size
        replace r_a := r_a.below (hb.mono (by omega))
        replace r_b := r_b.below (hb.mono (by omega))
        replace r_p := r_p.below (hb.mono (by omega))
        replace r_q := r_q.below (hb.mono (by omega))
        replace o_q := own_ext o_q hb
        have r_v := Reads.of_own o_v
        have u_v := fun k hk => (o_v.lt k hk).2
        clear hb
        rw [HD.out]
        go_wp2_with fail
        (try clear o_q)
        (try clear r_q)
        have hc : ChgA (bk_4) w10 (w10.setCell ⟨bk_4, 0, none⟩ (.slice A_v n' c_v)) := (ChgA.refl _ _).set _ _
        have hko := hk4
        replace hk0 := hk0.chgA hc (by omega)
        replace hk1 := hk1.chgA hc (by omega)
        replace hk2 := hk2.chgA hc (by omega)
        replace hk3 := hk3.chgA hc (by omega)
        replace hk5 := hk5.chgA hc (by omega)
        replace hk4 : Blk (w10.setCell ⟨bk_4, 0, none⟩ (.slice A_v n' c_v)) (bk_4) 39 [.slice A_v n' c_v] := hk4.set_ 0 _
        have k11 : Below w.heap.size w (w10.setCell ⟨bk_4, 0, none⟩ (.slice A_v n' c_v)) := hc.below (by omega) k10
        have p11 : (w10.setCell ⟨bk_4, 0, none⟩ (.slice A_v n' c_v)).heap.size = w10.heap.size := hc.size
        have bl0 := Nat.lt_of_lt_of_le bl0 (Nat.le_of_eq p11.symm)
        have bl1 := Nat.lt_of_lt_of_le bl1 (Nat.le_of_eq p11.symm)
        have bl2 := Nat.lt_of_lt_of_le bl2 (Nat.le_of_eq p11.symm)
        have bl3 := Nat.lt_of_lt_of_le bl3 (Nat.le_of_eq p11.symm)
        have bl4 := Nat.lt_of_lt_of_le bl4 (Nat.le_of_eq p11.symm)
        have bl5 := Nat.lt_of_lt_of_le bl5 (Nat.le_of_eq p11.symm)
        replace r_a := r_a.below (hc.below (by omega) (Below.refl _ _))
        replace r_b := r_b.below (hc.below (by omega) (Below.refl _ _))
        replace r_p := r_p.below (hc.below (by omega) (Below.refl _ _))
        replace o_v := own_chgA o_v hc (by first | exact own_ty o_v hko (by decide) | exact fun k hk => by have h1 := o_v.lt k hk; omega)
        replace r_v := Reads.of_own o_v
        generalize hW0 : (w10.setCell ⟨bk_4, 0, none⟩ (.slice A_v n' c_v)) = w11 at *
        clear hW0 hc hko
        clear bx0_0 fz0_0 bx1_0 fz1_0 bx1_1 fz1_1 bx1_2 fz1_2 bx1_3 fz1_3 bx2_0 fz2_0 bx3_0 fz3_0 bx3_1 fz3_1 bx3_2 fz3_2 bx3_3 fz3_3 bx4_0 fz4_0 bx5_0 fz5_0 bx5_1 fz5_1 bx5_2 fz5_2 bx5_3 fz5_3
        have bx0_0 : w11.cell? ⟨w.heap.size, 0, none⟩ = some (.slice A' n' c') := (hk0.cell 0).trans rfl
        have fz0_0 := hk0.frozen 0
        have bx1_0 : w11.cell? ⟨w.heap.size + 1, 0, none⟩ = some (.int .i64 base) := (hk1.cell 0).trans rfl
        have fz1_0 := hk1.frozen 0
        have bx1_1 : w11.cell? ⟨w.heap.size + 1, 1, none⟩ = some (.int .i64 size) := (hk1.cell 1).trans rfl
        have fz1_1 := hk1.frozen 1
        have bx1_2 : w11.cell? ⟨w.heap.size + 1, 2, none⟩ = some (.int .i64 head) := (hk1.cell 2).trans rfl
        have fz1_2 := hk1.frozen 2
        have bx1_3 : w11.cell? ⟨w.heap.size + 1, 3, none⟩ = some (.int .i64 tail) := (hk1.cell 3).trans rfl
        have fz1_3 := hk1.frozen 3
        have bx2_0 : w11.cell? ⟨w.heap.size + 1 + 1, 0, none⟩ = some (.slice none 0 0) := (hk2.cell 0).trans rfl
        have fz2_0 := hk2.frozen 0
        have bx3_0 : w11.cell? ⟨w.heap.size + 1 + 1 + 1, 0, none⟩ = some (.int .i64 0) := (hk3.cell 0).trans rfl
        have fz3_0 := hk3.frozen 0
        have bx3_1 : w11.cell? ⟨w.heap.size + 1 + 1 + 1, 1, none⟩ = some (.int .i64 0) := (hk3.cell 1).trans rfl
        have fz3_1 := hk3.frozen 1
        have bx3_2 : w11.cell? ⟨w.heap.size + 1 + 1 + 1, 2, none⟩ = some (.int .i64 0) := (hk3.cell 2).trans rfl
        have fz3_2 := hk3.frozen 2
        have bx3_3 : w11.cell? ⟨w.heap.size + 1 + 1 + 1, 3, none⟩ = some (.int .i64 0) := (hk3.cell 3).trans rfl
        have fz3_3 := hk3.frozen 3
        have bx4_0 : w11.cell? ⟨bk_4, 0, none⟩ = some (.slice A_v n' c_v) := (hk4.cell 0).trans rfl
        have fz4_0 := hk4.frozen 0
        have bx5_0 : w11.cell? ⟨bk_5, 0, none⟩ = some (.int .i64 base) := (hk5.cell 0).trans rfl
        have fz5_0 := hk5.frozen 0
        have bx5_1 : w11.cell? ⟨bk_5, 1, none⟩ = some (.int .i64 size) := (hk5.cell 1).trans rfl
        have fz5_1 := hk5.frozen 1
        have bx5_2 : w11.cell? ⟨bk_5, 2, none⟩ = some (.int .i64 head) := (hk5.cell 2).trans rfl
        have fz5_2 := hk5.frozen 2
        have bx5_3 : w11.cell? ⟨bk_5, 3, none⟩ = some (.int .i64 tt) := (hk5.cell 3).trans rfl
        have fz5_3 := hk5.frozen 3
        have hc : ChgA (bk_5) w11 (w11.setCell ⟨bk_5, 0, none⟩ (.int .i64 base)) := (ChgA.refl _ _).set _ _
        have hko := hk5
        replace hk0 := hk0.chgA hc (by omega)
        replace hk1 := hk1.chgA hc (by omega)
        replace hk2 := hk2.chgA hc (by omega)
        replace hk3 := hk3.chgA hc (by omega)
        replace hk4 := hk4.chgA hc (by omega)
        replace hk5 : Blk (w11.setCell ⟨bk_5, 0, none⟩ (.int .i64 base)) (bk_5) 69 [.int .i64 base, .int .i64 size, .int .i64 head, .int .i64 tt] := hk5.set_ 0 _
        have k12 : Below w.heap.size w (w11.setCell ⟨bk_5, 0, none⟩ (.int .i64 base)) := hc.below (by omega) k11
        have p12 : (w11.setCell ⟨bk_5, 0, none⟩ (.int .i64 base)).heap.size = w11.heap.size := hc.size
        have bl0 := Nat.lt_of_lt_of_le bl0 (Nat.le_of_eq p12.symm)
        have bl1 := Nat.lt_of_lt_of_le bl1 (Nat.le_of_eq p12.symm)
        have bl2 := Nat.lt_of_lt_of_le bl2 (Nat.le_of_eq p12.symm)
        have bl3 := Nat.lt_of_lt_of_le bl3 (Nat.le_of_eq p12.symm)
        have bl4 := Nat.lt_of_lt_of_le bl4 (Nat.le_of_eq p12.symm)
        have bl5 := Nat.lt_of_lt_of_le bl5 (Nat.le_of_eq p12.symm)
        replace r_a := r_a.below (hc.below (by omega) (Below.refl _ _))
        replace r_b := r_b.below (hc.below (by omega) (Below.refl _ _))
        replace r_p := r_p.below (hc.below (by omega) (Below.refl _ _))
        replace o_v := own_chgA o_v hc (by first | exact own_ty o_v hko (by decide) | exact fun k hk => by have h1 := o_v.lt k hk; omega)
        replace r_v := Reads.of_own o_v
        generalize hW0 : (w11.setCell ⟨bk_5, 0, none⟩ (.int .i64 base)) = w12 at *
        clear hW0 hc hko
        clear bx0_0 fz0_0 bx1_0 fz1_0 bx1_1 fz1_1 bx1_2 fz1_2 bx1_3 fz1_3 bx2_0 fz2_0 bx3_0 fz3_0 bx3_1 fz3_1 bx3_2 fz3_2 bx3_3 fz3_3 bx4_0 fz4_0 bx5_0 fz5_0 bx5_1 fz5_1 bx5_2 fz5_2 bx5_3 fz5_3
        have bx0_0 : w12.cell? ⟨w.heap.size, 0, none⟩ = some (.slice A' n' c') := (hk0.cell 0).trans rfl
        have fz0_0 := hk0.frozen 0
        have bx1_0 : w12.cell? ⟨w.heap.size + 1, 0, none⟩ = some (.int .i64 base) := (hk1.cell 0).trans rfl
        have fz1_0 := hk1.frozen 0
        have bx1_1 : w12.cell? ⟨w.heap.size + 1, 1, none⟩ = some (.int .i64 size) := (hk1.cell 1).trans rfl
        have fz1_1 := hk1.frozen 1
        have bx1_2 : w12.cell? ⟨w.heap.size + 1, 2, none⟩ = some (.int .i64 head) := (hk1.cell 2).trans rfl
        have fz1_2 := hk1.frozen 2
        have bx1_3 : w12.cell? ⟨w.heap.size + 1, 3, none⟩ = some (.int .i64 tail) := (hk1.cell 3).trans rfl
        have fz1_3 := hk1.frozen 3
        have bx2_0 : w12.cell? ⟨w.heap.size + 1 + 1, 0, none⟩ = some (.slice none 0 0) := (hk2.cell 0).trans rfl
        have fz2_0 := hk2.frozen 0
        have bx3_0 : w12.cell? ⟨w.heap.size + 1 + 1 + 1, 0, none⟩ = some (.int .i64 0) := (hk3.cell 0).trans rfl
        have fz3_0 := hk3.frozen 0
        have bx3_1 : w12.cell? ⟨w.heap.size + 1 + 1 + 1, 1, none⟩ = some (.int .i64 0) := (hk3.cell 1).trans rfl
        have fz3_1 := hk3.frozen 1
        have bx3_2 : w12.cell? ⟨w.heap.size + 1 + 1 + 1, 2, none⟩ = some (.int .i64 0) := (hk3.cell 2).trans rfl
        have fz3_2 := hk3.frozen 2
        have bx3_3 : w12.cell? ⟨w.heap.size + 1 + 1 + 1, 3, none⟩ = some (.int .i64 0) := (hk3.cell 3).trans rfl
        have fz3_3 := hk3.frozen 3
        have bx4_0 : w12.cell? ⟨bk_4, 0, none⟩ = some (.slice A_v n' c_v) := (hk4.cell 0).trans rfl
        have fz4_0 := hk4.frozen 0
        have bx5_0 : w12.cell? ⟨bk_5, 0, none⟩ = some (.int .i64 base) := (hk5.cell 0).trans rfl
        have fz5_0 := hk5.frozen 0
        have bx5_1 : w12.cell? ⟨bk_5, 1, none⟩ = some (.int .i64 size) := (hk5.cell 1).trans rfl
        have fz5_1 := hk5.frozen 1
        have bx5_2 : w12.cell? ⟨bk_5, 2, none⟩ = some (.int .i64 head) := (hk5.cell 2).trans rfl
        have fz5_2 := hk5.frozen 2
        have bx5_3 : w12.cell? ⟨bk_5, 3, none⟩ = some (.int .i64 tt) := (hk5.cell 3).trans rfl
        have fz5_3 := hk5.frozen 3
        have hc : ChgA (bk_5) w12 (w12.setCell ⟨bk_5, 1, none⟩ (.int .i64 size)) := (ChgA.refl _ _).set _ _
        have hko := hk5
        replace hk0 := hk0.chgA hc (by omega)
        replace hk1 := hk1.chgA hc (by omega)
        replace hk2 := hk2.chgA hc (by omega)
        replace hk3 := hk3.chgA hc (by omega)
        replace hk4 := hk4.chgA hc (by omega)
        replace hk5 : Blk (w12.setCell ⟨bk_5, 1, none⟩ (.int .i64 size)) (bk_5) 69 [.int .i64 base, .int .i64 size, .int .i64 head, .int .i64 tt] := hk5.set_ 1 _
        have k13 : Below w.heap.size w (w12.setCell ⟨bk_5, 1, none⟩ (.int .i64 size)) := hc.below (by omega) k12
        have p13 : (w12.setCell ⟨bk_5, 1, none⟩ (.int .i64 size)).heap.size = w12.heap.size := hc.size
        have bl0 := Nat.lt_of_lt_of_le bl0 (Nat.le_of_eq p13.symm)
        have bl1 := Nat.lt_of_lt_of_le bl1 (Nat.le_of_eq p13.symm)
        have bl2 := Nat.lt_of_lt_of_le bl2 (Nat.le_of_eq p13.symm)
        have bl3 := Nat.lt_of_lt_of_le bl3 (Nat.le_of_eq p13.symm)
        have bl4 := Nat.lt_of_lt_of_le bl4 (Nat.le_of_eq p13.symm)
        have bl5 := Nat.lt_of_lt_of_le bl5 (Nat.le_of_eq p13.symm)
        replace r_a := r_a.below (hc.below (by omega) (Below.refl _ _))
        replace r_b := r_b.below (hc.below (by omega) (Below.refl _ _))
        replace r_p := r_p.below (hc.below (by omega) (Below.refl _ _))
        replace o_v := own_chgA o_v hc (by first | exact own_ty o_v hko (by decide) | exact fun k hk => by have h1 := o_v.lt k hk; omega)
        replace r_v := Reads.of_own o_v
        generalize hW0 : (w12.setCell ⟨bk_5, 1, none⟩ (.int .i64 size)) = w13 at *
        clear hW0 hc hko
        clear bx0_0 fz0_0 bx1_0 fz1_0 bx1_1 fz1_1 bx1_2 fz1_2 bx1_3 fz1_3 bx2_0 fz2_0 bx3_0 fz3_0 bx3_1 fz3_1 bx3_2 fz3_2 bx3_3 fz3_3 bx4_0 fz4_0 bx5_0 fz5_0 bx5_1 fz5_1 bx5_2 fz5_2 bx5_3 fz5_3
        have bx0_0 : w13.cell? ⟨w.heap.size, 0, none⟩ = some (.slice A' n' c') := (hk0.cell 0).trans rfl
        have fz0_0 := hk0.frozen 0
        have bx1_0 : w13.cell? ⟨w.heap.size + 1, 0, none⟩ = some (.int .i64 base) := (hk1.cell 0).trans rfl
        have fz1_0 := hk1.frozen 0
        have bx1_1 : w13.cell? ⟨w.heap.size + 1, 1, none⟩ = some (.int .i64 size) := (hk1.cell 1).trans rfl
        have fz1_1 := hk1.frozen 1
        have bx1_2 : w13.cell? ⟨w.heap.size + 1, 2, none⟩ = some (.int .i64 head) := (hk1.cell 2).trans rfl
        have fz1_2 := hk1.frozen 2
        have bx1_3 : w13.cell? ⟨w.heap.size + 1, 3, none⟩ = some (.int .i64 tail) := (hk1.cell 3).trans rfl
        have fz1_3 := hk1.frozen 3
        have bx2_0 : w13.cell? ⟨w.heap.size + 1 + 1, 0, none⟩ = some (.slice none 0 0) := (hk2.cell 0).trans rfl
        have fz2_0 := hk2.frozen 0
        have bx3_0 : w13.cell? ⟨w.heap.size + 1 + 1 + 1, 0, none⟩ = some (.int .i64 0) := (hk3.cell 0).trans rfl
        have fz3_0 := hk3.frozen 0
        have bx3_1 : w13.cell? ⟨w.heap.size + 1 + 1 + 1, 1, none⟩ = some (.int .i64 0) := (hk3.cell 1).trans rfl
        have fz3_1 := hk3.frozen 1
        have bx3_2 : w13.cell? ⟨w.heap.size + 1 + 1 + 1, 2, none⟩ = some (.int .i64 0) := (hk3.cell 2).trans rfl
        have fz3_2 := hk3.frozen 2
        have bx3_3 : w13.cell? ⟨w.heap.size + 1 + 1 + 1, 3, none⟩ = some (.int .i64 0) := (hk3.cell 3).trans rfl
        have fz3_3 := hk3.frozen 3
        have bx4_0 : w13.cell? ⟨bk_4, 0, none⟩ = some (.slice A_v n' c_v) := (hk4.cell 0).trans rfl
        have fz4_0 := hk4.frozen 0
        have bx5_0 : w13.cell? ⟨bk_5, 0, none⟩ = some (.int .i64 base) := (hk5.cell 0).trans rfl
        have fz5_0 := hk5.frozen 0
        have bx5_1 : w13.cell? ⟨bk_5, 1, none⟩ = some (.int .i64 size) := (hk5.cell 1).trans rfl
        have fz5_1 := hk5.frozen 1
        have bx5_2 : w13.cell? ⟨bk_5, 2, none⟩ = some (.int .i64 head) := (hk5.cell 2).trans rfl
        have fz5_2 := hk5.frozen 2
        have bx5_3 : w13.cell? ⟨bk_5, 3, none⟩ = some (.int .i64 tt) := (hk5.cell 3).trans rfl
        have fz5_3 := hk5.frozen 3
        have hc : ChgA (bk_5) w13 (w13.setCell ⟨bk_5, 2, none⟩ (.int .i64 head)) := (ChgA.refl _ _).set _ _
        have hko := hk5
        replace hk0 := hk0.chgA hc (by omega)
        replace hk1 := hk1.chgA hc (by omega)
        replace hk2 := hk2.chgA hc (by omega)
        replace hk3 := hk3.chgA hc (by omega)
        replace hk4 := hk4.chgA hc (by omega)
        replace hk5 : Blk (w13.setCell ⟨bk_5, 2, none⟩ (.int .i64 head)) (bk_5) 69 [.int .i64 base, .int .i64 size, .int .i64 head, .int .i64 tt] := hk5.set_ 2 _
        have k14 : Below w.heap.size w (w13.setCell ⟨bk_5, 2, none⟩ (.int .i64 head)) := hc.below (by omega) k13
        have p14 : (w13.setCell ⟨bk_5, 2, none⟩ (.int .i64 head)).heap.size = w13.heap.size := hc.size
        have bl0 := Nat.lt_of_lt_of_le bl0 (Nat.le_of_eq p14.symm)
        have bl1 := Nat.lt_of_lt_of_le bl1 (Nat.le_of_eq p14.symm)
        have bl2 := Nat.lt_of_lt_of_le bl2 (Nat.le_of_eq p14.symm)
        have bl3 := Nat.lt_of_lt_of_le bl3 (Nat.le_of_eq p14.symm)
        have bl4 := Nat.lt_of_lt_of_le bl4 (Nat.le_of_eq p14.symm)
        have bl5 := Nat.lt_of_lt_of_le bl5 (Nat.le_of_eq p14.symm)
        replace r_a := r_a.below (hc.below (by omega) (Below.refl _ _))
        replace r_b := r_b.below (hc.below (by omega) (Below.refl _ _))
        replace r_p := r_p.below (hc.below (by omega) (Below.refl _ _))
        replace o_v := own_chgA o_v hc (by first | exact own_ty o_v hko (by decide) | exact fun k hk => by have h1 := o_v.lt k hk; omega)
        replace r_v := Reads.of_own o_v
        generalize hW0 : (w13.setCell ⟨bk_5, 2, none⟩ (.int .i64 head)) = w14 at *
        clear hW0 hc hko
        clear bx0_0 fz0_0 bx1_0 fz1_0 bx1_1 fz1_1 bx1_2 fz1_2 bx1_3 fz1_3 bx2_0 fz2_0 bx3_0 fz3_0 bx3_1 fz3_1 bx3_2 fz3_2 bx3_3 fz3_3 bx4_0 fz4_0 bx5_0 fz5_0 bx5_1 fz5_1 bx5_2 fz5_2 bx5_3 fz5_3
        have bx0_0 : w14.cell? ⟨w.heap.size, 0, none⟩ = some (.slice A' n' c') := (hk0.cell 0).trans rfl
        have fz0_0 := hk0.frozen 0
        have bx1_0 : w14.cell? ⟨w.heap.size + 1, 0, none⟩ = some (.int .i64 base) := (hk1.cell 0).trans rfl
        have fz1_0 := hk1.frozen 0
        have bx1_1 : w14.cell? ⟨w.heap.size + 1, 1, none⟩ = some (.int .i64 size) := (hk1.cell 1).trans rfl
        have fz1_1 := hk1.frozen 1
        have bx1_2 : w14.cell? ⟨w.heap.size + 1, 2, none⟩ = some (.int .i64 head) := (hk1.cell 2).trans rfl
        have fz1_2 := hk1.frozen 2
        have bx1_3 : w14.cell? ⟨w.heap.size + 1, 3, none⟩ = some (.int .i64 tail) := (hk1.cell 3).trans rfl
        have fz1_3 := hk1.frozen 3
        have bx2_0 : w14.cell? ⟨w.heap.size + 1 + 1, 0, none⟩ = some (.slice none 0 0) := (hk2.cell 0).trans rfl
        have fz2_0 := hk2.frozen 0
        have bx3_0 : w14.cell? ⟨w.heap.size + 1 + 1 + 1, 0, none⟩ = some (.int .i64 0) := (hk3.cell 0).trans rfl
        have fz3_0 := hk3.frozen 0
        have bx3_1 : w14.cell? ⟨w.heap.size + 1 + 1 + 1, 1, none⟩ = some (.int .i64 0) := (hk3.cell 1).trans rfl
        have fz3_1 := hk3.frozen 1
        have bx3_2 : w14.cell? ⟨w.heap.size + 1 + 1 + 1, 2, none⟩ = some (.int .i64 0) := (hk3.cell 2).trans rfl
        have fz3_2 := hk3.frozen 2
        have bx3_3 : w14.cell? ⟨w.heap.size + 1 + 1 + 1, 3, none⟩ = some (.int .i64 0) := (hk3.cell 3).trans rfl
        have fz3_3 := hk3.frozen 3
        have bx4_0 : w14.cell? ⟨bk_4, 0, none⟩ = some (.slice A_v n' c_v) := (hk4.cell 0).trans rfl
        have fz4_0 := hk4.frozen 0
        have bx5_0 : w14.cell? ⟨bk_5, 0, none⟩ = some (.int .i64 base) := (hk5.cell 0).trans rfl
        have fz5_0 := hk5.frozen 0
        have bx5_1 : w14.cell? ⟨bk_5, 1, none⟩ = some (.int .i64 size) := (hk5.cell 1).trans rfl
        have fz5_1 := hk5.frozen 1
        have bx5_2 : w14.cell? ⟨bk_5, 2, none⟩ = some (.int .i64 head) := (hk5.cell 2).trans rfl
        have fz5_2 := hk5.frozen 2
        have bx5_3 : w14.cell? ⟨bk_5, 3, none⟩ = some (.int .i64 tt) := (hk5.cell 3).trans rfl
        have fz5_3 := hk5.frozen 3
        have hc : ChgA (bk_5) w14 (w14.setCell ⟨bk_5, 3, none⟩ (.int .i64 (rputT l p d base size head tt x))) := (ChgA.refl _ _).set _ _
        have hko := hk5
        replace hk0 := hk0.chgA hc (by omega)
        replace hk1 := hk1.chgA hc (by omega)
        replace hk2 := hk2.chgA hc (by omega)
        replace hk3 := hk3.chgA hc (by omega)
        replace hk4 := hk4.chgA hc (by omega)
        replace hk5 : Blk (w14.setCell ⟨bk_5, 3, none⟩ (.int .i64 (rputT l p d base size head tt x))) (bk_5) 69 [.int .i64 base, .int .i64 size, .int .i64 head, .int .i64 (rputT l p d base size head tt x)] := hk5.set_ 3 _
        have k15 : Below w.heap.size w (w14.setCell ⟨bk_5, 3, none⟩ (.int .i64 (rputT l p d base size head tt x))) := hc.below (by omega) k14
        have p15 : (w14.setCell ⟨bk_5, 3, none⟩ (.int .i64 (rputT l p d base size head tt x))).heap.size = w14.heap.size := hc.size
        have bl0 := Nat.lt_of_lt_of_le bl0 (Nat.le_of_eq p15.symm)
        have bl1 := Nat.lt_of_lt_of_le bl1 (Nat.le_of_eq p15.symm)
        have bl2 := Nat.lt_of_lt_of_le bl2 (Nat.le_of_eq p15.symm)
        have bl3 := Nat.lt_of_lt_of_le bl3 (Nat.le_of_eq p15.symm)
        have bl4 := Nat.lt_of_lt_of_le bl4 (Nat.le_of_eq p15.symm)
        have bl5 := Nat.lt_of_lt_of_le bl5 (Nat.le_of_eq p15.symm)
        replace r_a := r_a.below (hc.below (by omega) (Below.refl _ _))
        replace r_b := r_b.below (hc.below (by omega) (Below.refl _ _))
        replace r_p := r_p.below (hc.below (by omega) (Below.refl _ _))
        replace o_v := own_chgA o_v hc (by first | exact own_ty o_v hko (by decide) | exact fun k hk => by have h1 := o_v.lt k hk; omega)
        replace r_v := Reads.of_own o_v
        generalize hW0 : (w14.setCell ⟨bk_5, 3, none⟩ (.int .i64 (rputT l p d base size head tt x))) = w15 at *
        clear hW0 hc hko
        clear bx0_0 fz0_0 bx1_0 fz1_0 bx1_1 fz1_1 bx1_2 fz1_2 bx1_3 fz1_3 bx2_0 fz2_0 bx3_0 fz3_0 bx3_1 fz3_1 bx3_2 fz3_2 bx3_3 fz3_3 bx4_0 fz4_0 bx5_0 fz5_0 bx5_1 fz5_1 bx5_2 fz5_2 bx5_3 fz5_3
        have bx0_0 : w15.cell? ⟨w.heap.size, 0, none⟩ = some (.slice A' n' c') := (hk0.cell 0).trans rfl
        have fz0_0 := hk0.frozen 0
        have bx1_0 : w15.cell? ⟨w.heap.size + 1, 0, none⟩ = some (.int .i64 base) := (hk1.cell 0).trans rfl
        have fz1_0 := hk1.frozen 0
        have bx1_1 : w15.cell? ⟨w.heap.size + 1, 1, none⟩ = some (.int .i64 size) := (hk1.cell 1).trans rfl
        have fz1_1 := hk1.frozen 1
        have bx1_2 : w15.cell? ⟨w.heap.size + 1, 2, none⟩ = some (.int .i64 head) := (hk1.cell 2).trans rfl
        have fz1_2 := hk1.frozen 2
        have bx1_3 : w15.cell? ⟨w.heap.size + 1, 3, none⟩ = some (.int .i64 tail) := (hk1.cell 3).trans rfl
        have fz1_3 := hk1.frozen 3
        have bx2_0 : w15.cell? ⟨w.heap.size + 1 + 1, 0, none⟩ = some (.slice none 0 0) := (hk2.cell 0).trans rfl
        have fz2_0 := hk2.frozen 0
        have bx3_0 : w15.cell? ⟨w.heap.size + 1 + 1 + 1, 0, none⟩ = some (.int .i64 0) := (hk3.cell 0).trans rfl
        have fz3_0 := hk3.frozen 0
        have bx3_1 : w15.cell? ⟨w.heap.size + 1 + 1 + 1, 1, none⟩ = some (.int .i64 0) := (hk3.cell 1).trans rfl
        have fz3_1 := hk3.frozen 1
        have bx3_2 : w15.cell? ⟨w.heap.size + 1 + 1 + 1, 2, none⟩ = some (.int .i64 0) := (hk3.cell 2).trans rfl
        have fz3_2 := hk3.frozen 2
        have bx3_3 : w15.cell? ⟨w.heap.size + 1 + 1 + 1, 3, none⟩ = some (.int .i64 0) := (hk3.cell 3).trans rfl
        have fz3_3 := hk3.frozen 3
        have bx4_0 : w15.cell? ⟨bk_4, 0, none⟩ = some (.slice A_v n' c_v) := (hk4.cell 0).trans rfl
        have fz4_0 := hk4.frozen 0
        have bx5_0 : w15.cell? ⟨bk_5, 0, none⟩ = some (.int .i64 base) := (hk5.cell 0).trans rfl
        have fz5_0 := hk5.frozen 0
        have bx5_1 : w15.cell? ⟨bk_5, 1, none⟩ = some (.int .i64 size) := (hk5.cell 1).trans rfl
        have fz5_1 := hk5.frozen 1
        have bx5_2 : w15.cell? ⟨bk_5, 2, none⟩ = some (.int .i64 head) := (hk5.cell 2).trans rfl
        have fz5_2 := hk5.frozen 2
        have bx5_3 : w15.cell? ⟨bk_5, 3, none⟩ = some (.int .i64 (rputT l p d base size head tt x)) := (hk5.cell 3).trans rfl
        have fz5_3 := hk5.frozen 3
        have hBB : w.heap.size ≤ w15.heap.size := by omega
        refine wp_region_slotsS (w.heap.size) [(39, fun _ v => v = .agg #[.slice A' n' c']), (40, RowP w15.heap.size 9 1 n' (pg.flatMap fun x : ByteArray => [Value.string x]) (fun A c => .agg #[.slice A n' c])), (41, fun _ v => v = .agg #[.int .i64 base, .int .i64 size, .int .i64 head, .int .i64 tail]), (12, fun _ v => v = .bool false)] [⟨3, 40, fun u => Blk u (w.heap.size + 1 + 1) 39 [.slice none 0 0], StaR w15.heap.size (w.heap.size + 1 + 1) 39 9 1 n' (pg.flatMap fun x : ByteArray => [Value.string x]) (fun A c => .agg #[.slice A n' c]) (fun A c => [.slice A n' c])⟩, ⟨4, 41, fun u => Blk u (w.heap.size + 1 + 1 + 1) 69 [.int .i64 0, .int .i64 0, .int .i64 0, .int .i64 0], fun u _ => Blk u (w.heap.size + 1 + 1 + 1) 69 [.int .i64 base, .int .i64 size, .int .i64 head, .int .i64 tail]⟩] (fun u => Blk u (w.heap.size) 39 [.slice A' n' c'] ∧ Blk u (w.heap.size + 1) 69 [.int .i64 base, .int .i64 size, .int .i64 head, .int .i64 tail] ∧ Blk u (bk_4) 39 [.slice A_v n' c_v] ∧ Blk u (bk_5) 69 [.int .i64 base, .int .i64 size, .int .i64 head, .int .i64 (rputT l p d base size head tt x)] ∧ u.ownsRow (w9.heap.size) 9 1 (.slice A_v n' c_v) n' ((rputM l p d base size head tt x).flatMap fun x : ByteArray => [Value.string x])) (by kernel_rfl) hBB (by kernel_rfl) (by kernel_rfl) (by kernel_rfl) (by kernel_rfl) ?_ ?_ ?_ ?_ ?_ ?_ ?_
        · intro p hp
          simp only [List.mem_cons, List.not_mem_nil, or_false] at hp
          rcases hp with rfl | rfl | rfl | rfl
          all_goals (intro u u' v hb hv; first | exact hv | exact BoxP.keep hv hb | exact RowP.keep hv hb)
        · intro s hs u u' hb
          simp only [List.mem_cons, List.not_mem_nil, or_false] at hs
          rcases hs with rfl | rfl
          all_goals (refine ⟨fun h => ?_, fun _ h => ?_⟩ <;> first | exact h | exact StoP.keep h hb | exact StoR.keep h hb | exact Blk.ext h hb | exact StaR.keep h hb)
        · intro s hs
          simp only [List.mem_cons, List.not_mem_nil, or_false] at hs
          rcases hs with rfl | rfl
          all_goals first | trivial | exact hk2 | exact hk3
        · exact ⟨hk0, hk1, hk4, hk5, o_v⟩
        · intro u u' hb hj
          obtain ⟨j0, j1, j2, j3, j4⟩ := hj
          exact ⟨(j0.ext hb), (j1.ext hb), (j2.ext hb), (j3.ext hb), (own_ext j4 hb)⟩
        · intro hGk hSk hJk
          refine allStep_cons (stepS_plain hGk hSk hBB hJk (by kernel_rfl) rfl ?_) ?_
          · intro a u hb hz hj hl hp K Q hK
            have e6 : a.tmps[6]?.getD undef = .pointer (some ⟨w.heap.size, 0, none⟩) := gd (hl 6 (by kernel_rfl))
            obtain ⟨j0, j1, j2, j3, j4⟩ := hj
            have hBb := j0
            have gb0 : u.cell? ⟨w.heap.size, 0, none⟩ = some (.slice A' n' c') := (hBb.cell 0).trans rfl
            go_simp
            exact hK _ _ (Below.refl _ _) (by intro d hd; cases hd; exact rfl)
          refine allStep_cons (stepS_plain hGk hSk hBB hJk (by kernel_rfl) rfl ?_) ?_
          · intro a u hb hz hj hl hp K Q hK
            have e39 : a.tmps[39]?.getD undef = .agg #[.slice A' n' c'] := gd (hl 39 (by kernel_rfl))
            go_simp
            refine (copyMemory_c _ _ _ pg _ hn_b (by omega) ((r_b.below (hb.mono (by omega))).more (by omega))).mono ?_
            rintro e u1 ⟨A_z, c_z, rfl, o_z, hb1⟩
            exact hK _ _ hb1 (by intro d hd; cases hd; exact ⟨A_z, c_z, rfl, own_base o_z (by omega)⟩)
          refine allStep_cons (stepS_plain hGk hSk hBB hJk (by kernel_rfl) rfl ?_) ?_
          · intro a u hb hz hj hl hp K Q hK
            have e8 : a.tmps[8]?.getD undef = .pointer (some ⟨w.heap.size + 1, 0, none⟩) := gd (hl 8 (by kernel_rfl))
            obtain ⟨j0, j1, j2, j3, j4⟩ := hj
            have hBb := j1
            have gb0 : u.cell? ⟨w.heap.size + 1, 0, none⟩ = some (.int .i64 base) := (hBb.cell 0).trans rfl
            have gb1 : u.cell? ⟨w.heap.size + 1, 1, none⟩ = some (.int .i64 size) := (hBb.cell 1).trans rfl
            have gb2 : u.cell? ⟨w.heap.size + 1, 2, none⟩ = some (.int .i64 head) := (hBb.cell 2).trans rfl
            have gb3 : u.cell? ⟨w.heap.size + 1, 3, none⟩ = some (.int .i64 tail) := (hBb.cell 3).trans rfl
            go_simp
            exact hK _ _ (Below.refl _ _) (by intro d hd; cases hd; exact rfl)
          refine allStep_cons (stepS_store (ChgA (w.heap.size + 1 + 1)) (fun _ _ hc hb => hc.below (by omega) hb) (fun _ _ hc => hc.size) (hold_rel ?_) ?_ ?_ rfl rfl ?_) ?_
          · intro p hp
            simp only [List.mem_cons, List.not_mem_nil, or_false] at hp
            rcases hp with rfl | rfl | rfl | rfl
            all_goals (intro u u' v hb hv; first | exact hv | exact BoxP.chgA hv hb (by omega) | exact RowP.chgA hv hb (by omega))
          · intro s hs hne u u' hb
            simp only [List.mem_cons, List.not_mem_nil, or_false] at hs
            rcases hs with rfl | rfl
            all_goals first | exact absurd (by rfl) hne | (refine ⟨fun h => ?_, fun _ h => ?_⟩ <;> first | exact h | exact Blk.chgA h hb (by omega) | exact StoP.chgA h hb (by omega) | exact StoR.chgA h hb (by omega) | exact StaR.chgA h hb (by omega) (by omega))
          · intro u u' hb hj
            obtain ⟨j0, j1, j2, j3, j4⟩ := hj
            exact ⟨(j0.chgA hb (by omega)), (j1.chgA hb (by omega)), (j2.chgA hb (by omega)), (j3.chgA hb (by omega)), (own_chgA j4 hb (by first | exact own_ty o_v hk2 (by decide) | exact fun k hk => by have h1 := o_v.lt k hk; omega))⟩
          · intro a u hb hz hj hl hp K Q hK
            have e10 : a.tmps[10]?.getD undef = .pointer (some ⟨w.heap.size + 1 + 1, 0, none⟩) := gd (hl 10 (by kernel_rfl))
            have hBs : Blk u (w.heap.size + 1 + 1) 39 [.slice none 0 0] := hp _ (List.mem_of_getElem? (i := 0) rfl) (by kernel_rfl)
            have gs0 : u.cell? ⟨w.heap.size + 1 + 1, 0, none⟩ = some (.slice none 0 0) := (hBs.cell 0).trans rfl
            have f0 := hBs.frozen 0
            obtain ⟨A2, c2, ex40, o2⟩ : RowP w15.heap.size 9 1 n' (pg.flatMap fun x : ByteArray => [Value.string x]) (fun A c => .agg #[.slice A n' c]) u (a.tmps.getD 40 undef) := hl 40 (by kernel_rfl)
            have e40 := gd ex40
            go_simp
            refine hK undef _ ((ChgA.refl _ _).set 0 _) (fun s hs he => ?_)
            simp only [List.mem_cons, List.not_mem_nil, or_false] at hs
            rcases hs with rfl | rfl
            · exact ⟨A2, c2, ex40, (hBs.set_ 0 _), own_chgA o2 ((ChgA.refl _ _).set 0 _) (fun k hk => by have := (o2.lt k hk).1; omega)⟩
            · exact absurd (show (4 : Nat) = 3 from he) (by decide)
          refine allStep_cons (stepS_store (ChgA (w.heap.size + 1 + 1 + 1)) (fun _ _ hc hb => hc.below (by omega) hb) (fun _ _ hc => hc.size) (hold_rel ?_) ?_ ?_ rfl rfl ?_) ?_
          · intro p hp
            simp only [List.mem_cons, List.not_mem_nil, or_false] at hp
            rcases hp with rfl | rfl | rfl | rfl
            all_goals (intro u u' v hb hv; first | exact hv | exact BoxP.chgA hv hb (by omega) | exact RowP.chgA hv hb (by omega))
          · intro s hs hne u u' hb
            simp only [List.mem_cons, List.not_mem_nil, or_false] at hs
            rcases hs with rfl | rfl
            all_goals first | exact absurd (by rfl) hne | (refine ⟨fun h => ?_, fun _ h => ?_⟩ <;> first | exact h | exact Blk.chgA h hb (by omega) | exact StoP.chgA h hb (by omega) | exact StoR.chgA h hb (by omega) | exact StaR.chgA h hb (by omega) (by omega))
          · intro u u' hb hj
            obtain ⟨j0, j1, j2, j3, j4⟩ := hj
            exact ⟨(j0.chgA hb (by omega)), (j1.chgA hb (by omega)), (j2.chgA hb (by omega)), (j3.chgA hb (by omega)), (own_chgA j4 hb (by first | exact own_ty o_v hk3 (by decide) | exact fun k hk => by have h1 := o_v.lt k hk; omega))⟩
          · intro a u hb hz hj hl hp K Q hK
            have e11 : a.tmps[11]?.getD undef = .pointer (some ⟨w.heap.size + 1 + 1 + 1, 0, none⟩) := gd (hl 11 (by kernel_rfl))
            have hBs : Blk u (w.heap.size + 1 + 1 + 1) 69 [.int .i64 0, .int .i64 0, .int .i64 0, .int .i64 0] := hp _ (List.mem_of_getElem? (i := 1) rfl) (by kernel_rfl)
            have gs0 : u.cell? ⟨w.heap.size + 1 + 1 + 1, 0, none⟩ = some (.int .i64 0) := (hBs.cell 0).trans rfl
            have gs1 : u.cell? ⟨w.heap.size + 1 + 1 + 1, 1, none⟩ = some (.int .i64 0) := (hBs.cell 1).trans rfl
            have gs2 : u.cell? ⟨w.heap.size + 1 + 1 + 1, 2, none⟩ = some (.int .i64 0) := (hBs.cell 2).trans rfl
            have gs3 : u.cell? ⟨w.heap.size + 1 + 1 + 1, 3, none⟩ = some (.int .i64 0) := (hBs.cell 3).trans rfl
            have f0 := hBs.frozen 0
            have f1 := hBs.frozen 1
            have f2 := hBs.frozen 2
            have f3 := hBs.frozen 3
            have e41 : a.tmps[41]?.getD undef = .agg #[.int .i64 base, .int .i64 size, .int .i64 head, .int .i64 tail] := gd (hl 41 (by kernel_rfl))
            go_simp
            refine hK undef _ (((((ChgA.refl _ _).set 0 _).set 1 _).set 2 _).set 3 _) (fun s hs he => ?_)
            simp only [List.mem_cons, List.not_mem_nil, or_false] at hs
            rcases hs with rfl | rfl
            · exact absurd (show (3 : Nat) = 4 from he) (by decide)
            · exact ((((hBs.set_ 0 _).set_ 1 _).set_ 2 _).set_ 3 _)
          refine allStep_cons (stepS_plain hGk hSk hBB hJk (by kernel_rfl) rfl ?_) ?_
          · intro a u hb hz hj hl hp K Q hK
            go_simp
            exact hK _ _ (Below.refl _ _) (by intro d hd; cases hd; exact rfl)
          exact allStep_nil
        intro xT w16 hb hz hj hL hSt
        clear bx0_0 fz0_0 bx1_0 fz1_0 bx1_1 fz1_1 bx1_2 fz1_2 bx1_3 fz1_3 bx2_0 fz2_0 bx3_0 fz3_0 bx3_1 fz3_1 bx3_2 fz3_2 bx3_3 fz3_3 bx4_0 fz4_0 bx5_0 fz5_0 bx5_1 fz5_1 bx5_2 fz5_2 bx5_3 fz5_3 hk0 hk1 hk2 hk3 hk4 hk5 r_v o_v
        obtain ⟨hk0, hk1, hk4, hk5, o_v⟩ := hj
        have fx12 : xT 12 = .bool false := hL _ (List.mem_of_getElem? (i := 3) rfl)
        obtain ⟨A_z, c_z, fy, hk2, o_z⟩ : StaR w15.heap.size (w.heap.size + 1 + 1) 39 9 1 n' (pg.flatMap fun x : ByteArray => [Value.string x]) (fun A c => .agg #[.slice A n' c]) (fun A c => [.slice A n' c]) w16 (xT 40) := hSt _ (List.mem_of_getElem? (i := 0) rfl)
        clear fy
        have hk3 : Blk w16 (w.heap.size + 1 + 1 + 1) 69 [.int .i64 base, .int .i64 size, .int .i64 head, .int .i64 tail] := hSt _ (List.mem_of_getElem? (i := 1) rfl)
        simp only [List.map, putAll, fx12]
        have k16 : Below w.heap.size w w16 := k15.trans hb
        have p16 : w15.heap.size ≤ w16.heap.size := hb.size
        have bl0 := Nat.lt_of_lt_of_le bl0 hb.size
        have bl1 := Nat.lt_of_lt_of_le bl1 hb.size
        have bl2 := Nat.lt_of_lt_of_le bl2 hb.size
        have bl3 := Nat.lt_of_lt_of_le bl3 hb.size
        have bl4 := Nat.lt_of_lt_of_le bl4 hb.size
        have bl5 := Nat.lt_of_lt_of_le bl5 hb.size
        replace r_a := r_a.below hb
        replace r_b := r_b.below hb
        replace r_p := r_p.below hb
        have r_v := Reads.of_own o_v
        have r_z := Reads.of_own o_z
        have u_z := fun k hk => (o_z.lt k hk).2
        have bx0_0 : w16.cell? ⟨w.heap.size, 0, none⟩ = some (.slice A' n' c') := (hk0.cell 0).trans rfl
        have fz0_0 := hk0.frozen 0
        have bx1_0 : w16.cell? ⟨w.heap.size + 1, 0, none⟩ = some (.int .i64 base) := (hk1.cell 0).trans rfl
        have fz1_0 := hk1.frozen 0
        have bx1_1 : w16.cell? ⟨w.heap.size + 1, 1, none⟩ = some (.int .i64 size) := (hk1.cell 1).trans rfl
        have fz1_1 := hk1.frozen 1
        have bx1_2 : w16.cell? ⟨w.heap.size + 1, 2, none⟩ = some (.int .i64 head) := (hk1.cell 2).trans rfl
        have fz1_2 := hk1.frozen 2
        have bx1_3 : w16.cell? ⟨w.heap.size + 1, 3, none⟩ = some (.int .i64 tail) := (hk1.cell 3).trans rfl
        have fz1_3 := hk1.frozen 3
        have bx2_0 : w16.cell? ⟨w.heap.size + 1 + 1, 0, none⟩ = some (.slice A_z n' c_z) := (hk2.cell 0).trans rfl
        have fz2_0 := hk2.frozen 0
        have bx3_0 : w16.cell? ⟨w.heap.size + 1 + 1 + 1, 0, none⟩ = some (.int .i64 base) := (hk3.cell 0).trans rfl
        have fz3_0 := hk3.frozen 0
        have bx3_1 : w16.cell? ⟨w.heap.size + 1 + 1 + 1, 1, none⟩ = some (.int .i64 size) := (hk3.cell 1).trans rfl
        have fz3_1 := hk3.frozen 1
        have bx3_2 : w16.cell? ⟨w.heap.size + 1 + 1 + 1, 2, none⟩ = some (.int .i64 head) := (hk3.cell 2).trans rfl
        have fz3_2 := hk3.frozen 2
        have bx3_3 : w16.cell? ⟨w.heap.size + 1 + 1 + 1, 3, none⟩ = some (.int .i64 tail) := (hk3.cell 3).trans rfl
        have fz3_3 := hk3.frozen 3
        have bx4_0 : w16.cell? ⟨bk_4, 0, none⟩ = some (.slice A_v n' c_v) := (hk4.cell 0).trans rfl
        have fz4_0 := hk4.frozen 0
        have bx5_0 : w16.cell? ⟨bk_5, 0, none⟩ = some (.int .i64 base) := (hk5.cell 0).trans rfl
        have fz5_0 := hk5.frozen 0
        have bx5_1 : w16.cell? ⟨bk_5, 1, none⟩ = some (.int .i64 size) := (hk5.cell 1).trans rfl
        have fz5_1 := hk5.frozen 1
        have bx5_2 : w16.cell? ⟨bk_5, 2, none⟩ = some (.int .i64 head) := (hk5.cell 2).trans rfl
        have fz5_2 := hk5.frozen 2
        have bx5_3 : w16.cell? ⟨bk_5, 3, none⟩ = some (.int .i64 (rputT l p d base size head tt x)) := (hk5.cell 3).trans rfl
        have fz5_3 := hk5.frozen 3
        clear hL hSt hb hz fx12
        go_wp2
        refine bodyPost_ret (v := .tuple #[.agg #[.slice A_z n' c_z], .agg #[.int .i64 base, .int .i64 size, .int .i64 head, .int .i64 tail], .bool false]) (by simp [results, Try.results51, go_sem, bx2_0, bx3_0, bx3_1, bx3_2, bx3_3]) rfl ?_
        rw [HB.out.2.1]
        exact ⟨A_z, c_z, by rw [HB.out.1, HB.out.2.2], own_base o_z (by omega), k16⟩
      · skip
        have HST : Hid (paG l d base size head (es.drop (k + 1)) (rputM l p d base size head tt x) (rputT l p d base size head tt x) = paG l d base size head es pg tail) := by rw [Hid, ← hsc.out, hst, if_pos hd]
        have HPL : Hid ((rputM l p d base size head tt x).length = n') := by rw [Hid, rputM_len]; exact hpl.out
        have hT : I64 (rputT l p d base size head tt x) := rputT_i64 htt
        have HD := Lib.hid hd
        clear hd hst
        have bx0_0 : w9.cell? ⟨w.heap.size, 0, none⟩ = some (.slice A' n' c') := (hk0.cell 0).trans rfl
        have fz0_0 := hk0.frozen 0
        have bx1_0 : w9.cell? ⟨w.heap.size + 1, 0, none⟩ = some (.int .i64 base) := (hk1.cell 0).trans rfl
        have fz1_0 := hk1.frozen 0
        have bx1_1 : w9.cell? ⟨w.heap.size + 1, 1, none⟩ = some (.int .i64 size) := (hk1.cell 1).trans rfl
        have fz1_1 := hk1.frozen 1
        have bx1_2 : w9.cell? ⟨w.heap.size + 1, 2, none⟩ = some (.int .i64 head) := (hk1.cell 2).trans rfl
        have fz1_2 := hk1.frozen 2
        have bx1_3 : w9.cell? ⟨w.heap.size + 1, 3, none⟩ = some (.int .i64 tail) := (hk1.cell 3).trans rfl
        have fz1_3 := hk1.frozen 3
        have bx2_0 : w9.cell? ⟨w.heap.size + 1 + 1, 0, none⟩ = some (.slice none 0 0) := (hk2.cell 0).trans rfl
        have fz2_0 := hk2.frozen 0
        have bx3_0 : w9.cell? ⟨w.heap.size + 1 + 1 + 1, 0, none⟩ = some (.int .i64 0) := (hk3.cell 0).trans rfl
        have fz3_0 := hk3.frozen 0
        have bx3_1 : w9.cell? ⟨w.heap.size + 1 + 1 + 1, 1, none⟩ = some (.int .i64 0) := (hk3.cell 1).trans rfl
        have fz3_1 := hk3.frozen 1
        have bx3_2 : w9.cell? ⟨w.heap.size + 1 + 1 + 1, 2, none⟩ = some (.int .i64 0) := (hk3.cell 2).trans rfl
        have fz3_2 := hk3.frozen 2
        have bx3_3 : w9.cell? ⟨w.heap.size + 1 + 1 + 1, 3, none⟩ = some (.int .i64 0) := (hk3.cell 3).trans rfl
        have fz3_3 := hk3.frozen 3
        have bx4_0 : w9.cell? ⟨bk_4, 0, none⟩ = some (.slice A4 n' c4) := (hk4.cell 0).trans rfl
        have fz4_0 := hk4.frozen 0
        have bx5_0 : w9.cell? ⟨bk_5, 0, none⟩ = some (.int .i64 base) := (hk5.cell 0).trans rfl
        have fz5_0 := hk5.frozen 0
        have bx5_1 : w9.cell? ⟨bk_5, 1, none⟩ = some (.int .i64 size) := (hk5.cell 1).trans rfl
        have fz5_1 := hk5.frozen 1
        have bx5_2 : w9.cell? ⟨bk_5, 2, none⟩ = some (.int .i64 head) := (hk5.cell 2).trans rfl
        have fz5_2 := hk5.frozen 2
        have bx5_3 : w9.cell? ⟨bk_5, 3, none⟩ = some (.int .i64 tt) := (hk5.cell 3).trans rfl
        have fz5_3 := hk5.frozen 3
        go_wp2_with fail
        refine (implRingPut_c _ _ _ _ _ _ l p _ hn_a hpl.out hs_a hs_b (r_a.more (by omega)) (r_q.more (by omega)) _ _ _ _ _ _ hh htt hE).mono ?_
        rintro e w10 ⟨A_v, c_v, rfl, o_v, hb⟩
        have k10 : Below w.heap.size w w10 := ext_step k9 (by omega) hb
        have p10 := hb.size
        replace hk0 := hk0.ext hb
        replace hk1 := hk1.ext hb
        replace hk2 := hk2.ext hb
        replace hk3 := hk3.ext hb
        replace hk4 := hk4.ext hb
        replace hk5 := hk5.ext hb
        clear bx0_0 fz0_0 bx1_0 fz1_0 bx1_1 fz1_1 bx1_2 fz1_2 bx1_3 fz1_3 bx2_0 fz2_0 bx3_0 fz3_0 bx3_1 fz3_1 bx3_2 fz3_2 bx3_3 fz3_3 bx4_0 fz4_0 bx5_0 fz5_0 bx5_1 fz5_1 bx5_2 fz5_2 bx5_3 fz5_3
        have bx0_0 : w10.cell? ⟨w.heap.size, 0, none⟩ = some (.slice A' n' c') := (hk0.cell 0).trans rfl
        have fz0_0 := hk0.frozen 0
        have bx1_0 : w10.cell? ⟨w.heap.size + 1, 0, none⟩ = some (.int .i64 base) := (hk1.cell 0).trans rfl
        have fz1_0 := hk1.frozen 0
        have bx1_1 : w10.cell? ⟨w.heap.size + 1, 1, none⟩ = some (.int .i64 size) := (hk1.cell 1).trans rfl
        have fz1_1 := hk1.frozen 1
        have bx1_2 : w10.cell? ⟨w.heap.size + 1, 2, none⟩ = some (.int .i64 head) := (hk1.cell 2).trans rfl
        have fz1_2 := hk1.frozen 2
        have bx1_3 : w10.cell? ⟨w.heap.size + 1, 3, none⟩ = some (.int .i64 tail) := (hk1.cell 3).trans rfl
        have fz1_3 := hk1.frozen 3
        have bx2_0 : w10.cell? ⟨w.heap.size + 1 + 1, 0, none⟩ = some (.slice none 0 0) := (hk2.cell 0).trans rfl
        have fz2_0 := hk2.frozen 0
        have bx3_0 : w10.cell? ⟨w.heap.size + 1 + 1 + 1, 0, none⟩ = some (.int .i64 0) := (hk3.cell 0).trans rfl
        have fz3_0 := hk3.frozen 0
        have bx3_1 : w10.cell? ⟨w.heap.size + 1 + 1 + 1, 1, none⟩ = some (.int .i64 0) := (hk3.cell 1).trans rfl
        have fz3_1 := hk3.frozen 1
        have bx3_2 : w10.cell? ⟨w.heap.size + 1 + 1 + 1, 2, none⟩ = some (.int .i64 0) := (hk3.cell 2).trans rfl
        have fz3_2 := hk3.frozen 2
        have bx3_3 : w10.cell? ⟨w.heap.size + 1 + 1 + 1, 3, none⟩ = some (.int .i64 0) := (hk3.cell 3).trans rfl
        have fz3_3 := hk3.frozen 3
        have bx4_0 : w10.cell? ⟨bk_4, 0, none⟩ = some (.slice A4 n' c4) := (hk4.cell 0).trans rfl
        have fz4_0 := hk4.frozen 0
        have bx5_0 : w10.cell? ⟨bk_5, 0, none⟩ = some (.int .i64 base) := (hk5.cell 0).trans rfl
        have fz5_0 := hk5.frozen 0
        have bx5_1 : w10.cell? ⟨bk_5, 1, none⟩ = some (.int .i64 size) := (hk5.cell 1).trans rfl
        have fz5_1 := hk5.frozen 1
        have bx5_2 : w10.cell? ⟨bk_5, 2, none⟩ = some (.int .i64 head) := (hk5.cell 2).trans rfl
        have fz5_2 := hk5.frozen 2
        have bx5_3 : w10.cell? ⟨bk_5, 3, none⟩ = some (.int .i64 tt) := (hk5.cell 3).trans rfl
        have fz5_3 := hk5.frozen 3
        have bl0 := Nat.lt_of_lt_of_le bl0 hb.size
        have bl1 := Nat.lt_of_lt_of_le bl1 hb.size
        have bl2 := Nat.lt_of_lt_of_le bl2 hb.size
        have bl3 := Nat.lt_of_lt_of_le bl3 hb.size
        have bl4 := Nat.lt_of_lt_of_le bl4 hb.size
        have bl5 := Nat.lt_of_lt_of_le bl5 hb.size
        replace r_a := r_a.below (hb.mono (by omega))
        replace r_b := r_b.below (hb.mono (by omega))
        replace r_p := r_p.below (hb.mono (by omega))
        replace r_q := r_q.below (hb.mono (by omega))
        replace o_q := own_ext o_q hb
        have r_v := Reads.of_own o_v
        have u_v := fun k hk => (o_v.lt k hk).2
        clear hb
        rw [HD.out]
        go_wp2_with fail
        (try clear o_q)
        (try clear r_q)
        have hc : ChgA (bk_4) w10 (w10.setCell ⟨bk_4, 0, none⟩ (.slice A_v n' c_v)) := (ChgA.refl _ _).set _ _
        have hko := hk4
        replace hk0 := hk0.chgA hc (by omega)
        replace hk1 := hk1.chgA hc (by omega)
        replace hk2 := hk2.chgA hc (by omega)
        replace hk3 := hk3.chgA hc (by omega)
        replace hk5 := hk5.chgA hc (by omega)
        replace hk4 : Blk (w10.setCell ⟨bk_4, 0, none⟩ (.slice A_v n' c_v)) (bk_4) 39 [.slice A_v n' c_v] := hk4.set_ 0 _
        have k11 : Below w.heap.size w (w10.setCell ⟨bk_4, 0, none⟩ (.slice A_v n' c_v)) := hc.below (by omega) k10
        have p11 : (w10.setCell ⟨bk_4, 0, none⟩ (.slice A_v n' c_v)).heap.size = w10.heap.size := hc.size
        have bl0 := Nat.lt_of_lt_of_le bl0 (Nat.le_of_eq p11.symm)
        have bl1 := Nat.lt_of_lt_of_le bl1 (Nat.le_of_eq p11.symm)
        have bl2 := Nat.lt_of_lt_of_le bl2 (Nat.le_of_eq p11.symm)
        have bl3 := Nat.lt_of_lt_of_le bl3 (Nat.le_of_eq p11.symm)
        have bl4 := Nat.lt_of_lt_of_le bl4 (Nat.le_of_eq p11.symm)
        have bl5 := Nat.lt_of_lt_of_le bl5 (Nat.le_of_eq p11.symm)
        replace r_a := r_a.below (hc.below (by omega) (Below.refl _ _))
        replace r_b := r_b.below (hc.below (by omega) (Below.refl _ _))
        replace r_p := r_p.below (hc.below (by omega) (Below.refl _ _))
        replace o_v := own_chgA o_v hc (by first | exact own_ty o_v hko (by decide) | exact fun k hk => by have h1 := o_v.lt k hk; omega)
        replace r_v := Reads.of_own o_v
        generalize hW0 : (w10.setCell ⟨bk_4, 0, none⟩ (.slice A_v n' c_v)) = w11 at *
        clear hW0 hc hko
        clear bx0_0 fz0_0 bx1_0 fz1_0 bx1_1 fz1_1 bx1_2 fz1_2 bx1_3 fz1_3 bx2_0 fz2_0 bx3_0 fz3_0 bx3_1 fz3_1 bx3_2 fz3_2 bx3_3 fz3_3 bx4_0 fz4_0 bx5_0 fz5_0 bx5_1 fz5_1 bx5_2 fz5_2 bx5_3 fz5_3
        have bx0_0 : w11.cell? ⟨w.heap.size, 0, none⟩ = some (.slice A' n' c') := (hk0.cell 0).trans rfl
        have fz0_0 := hk0.frozen 0
        have bx1_0 : w11.cell? ⟨w.heap.size + 1, 0, none⟩ = some (.int .i64 base) := (hk1.cell 0).trans rfl
        have fz1_0 := hk1.frozen 0
        have bx1_1 : w11.cell? ⟨w.heap.size + 1, 1, none⟩ = some (.int .i64 size) := (hk1.cell 1).trans rfl
        have fz1_1 := hk1.frozen 1
        have bx1_2 : w11.cell? ⟨w.heap.size + 1, 2, none⟩ = some (.int .i64 head) := (hk1.cell 2).trans rfl
        have fz1_2 := hk1.frozen 2
        have bx1_3 : w11.cell? ⟨w.heap.size + 1, 3, none⟩ = some (.int .i64 tail) := (hk1.cell 3).trans rfl
        have fz1_3 := hk1.frozen 3
        have bx2_0 : w11.cell? ⟨w.heap.size + 1 + 1, 0, none⟩ = some (.slice none 0 0) := (hk2.cell 0).trans rfl
        have fz2_0 := hk2.frozen 0
        have bx3_0 : w11.cell? ⟨w.heap.size + 1 + 1 + 1, 0, none⟩ = some (.int .i64 0) := (hk3.cell 0).trans rfl
        have fz3_0 := hk3.frozen 0
        have bx3_1 : w11.cell? ⟨w.heap.size + 1 + 1 + 1, 1, none⟩ = some (.int .i64 0) := (hk3.cell 1).trans rfl
        have fz3_1 := hk3.frozen 1
        have bx3_2 : w11.cell? ⟨w.heap.size + 1 + 1 + 1, 2, none⟩ = some (.int .i64 0) := (hk3.cell 2).trans rfl
        have fz3_2 := hk3.frozen 2
        have bx3_3 : w11.cell? ⟨w.heap.size + 1 + 1 + 1, 3, none⟩ = some (.int .i64 0) := (hk3.cell 3).trans rfl
        have fz3_3 := hk3.frozen 3
        have bx4_0 : w11.cell? ⟨bk_4, 0, none⟩ = some (.slice A_v n' c_v) := (hk4.cell 0).trans rfl
        have fz4_0 := hk4.frozen 0
        have bx5_0 : w11.cell? ⟨bk_5, 0, none⟩ = some (.int .i64 base) := (hk5.cell 0).trans rfl
        have fz5_0 := hk5.frozen 0
        have bx5_1 : w11.cell? ⟨bk_5, 1, none⟩ = some (.int .i64 size) := (hk5.cell 1).trans rfl
        have fz5_1 := hk5.frozen 1
        have bx5_2 : w11.cell? ⟨bk_5, 2, none⟩ = some (.int .i64 head) := (hk5.cell 2).trans rfl
        have fz5_2 := hk5.frozen 2
        have bx5_3 : w11.cell? ⟨bk_5, 3, none⟩ = some (.int .i64 tt) := (hk5.cell 3).trans rfl
        have fz5_3 := hk5.frozen 3
        have hc : ChgA (bk_5) w11 (w11.setCell ⟨bk_5, 0, none⟩ (.int .i64 base)) := (ChgA.refl _ _).set _ _
        have hko := hk5
        replace hk0 := hk0.chgA hc (by omega)
        replace hk1 := hk1.chgA hc (by omega)
        replace hk2 := hk2.chgA hc (by omega)
        replace hk3 := hk3.chgA hc (by omega)
        replace hk4 := hk4.chgA hc (by omega)
        replace hk5 : Blk (w11.setCell ⟨bk_5, 0, none⟩ (.int .i64 base)) (bk_5) 69 [.int .i64 base, .int .i64 size, .int .i64 head, .int .i64 tt] := hk5.set_ 0 _
        have k12 : Below w.heap.size w (w11.setCell ⟨bk_5, 0, none⟩ (.int .i64 base)) := hc.below (by omega) k11
        have p12 : (w11.setCell ⟨bk_5, 0, none⟩ (.int .i64 base)).heap.size = w11.heap.size := hc.size
        have bl0 := Nat.lt_of_lt_of_le bl0 (Nat.le_of_eq p12.symm)
        have bl1 := Nat.lt_of_lt_of_le bl1 (Nat.le_of_eq p12.symm)
        have bl2 := Nat.lt_of_lt_of_le bl2 (Nat.le_of_eq p12.symm)
        have bl3 := Nat.lt_of_lt_of_le bl3 (Nat.le_of_eq p12.symm)
        have bl4 := Nat.lt_of_lt_of_le bl4 (Nat.le_of_eq p12.symm)
        have bl5 := Nat.lt_of_lt_of_le bl5 (Nat.le_of_eq p12.symm)
        replace r_a := r_a.below (hc.below (by omega) (Below.refl _ _))
        replace r_b := r_b.below (hc.below (by omega) (Below.refl _ _))
        replace r_p := r_p.below (hc.below (by omega) (Below.refl _ _))
        replace o_v := own_chgA o_v hc (by first | exact own_ty o_v hko (by decide) | exact fun k hk => by have h1 := o_v.lt k hk; omega)
        replace r_v := Reads.of_own o_v
        generalize hW0 : (w11.setCell ⟨bk_5, 0, none⟩ (.int .i64 base)) = w12 at *
        clear hW0 hc hko
        clear bx0_0 fz0_0 bx1_0 fz1_0 bx1_1 fz1_1 bx1_2 fz1_2 bx1_3 fz1_3 bx2_0 fz2_0 bx3_0 fz3_0 bx3_1 fz3_1 bx3_2 fz3_2 bx3_3 fz3_3 bx4_0 fz4_0 bx5_0 fz5_0 bx5_1 fz5_1 bx5_2 fz5_2 bx5_3 fz5_3
        have bx0_0 : w12.cell? ⟨w.heap.size, 0, none⟩ = some (.slice A' n' c') := (hk0.cell 0).trans rfl
        have fz0_0 := hk0.frozen 0
        have bx1_0 : w12.cell? ⟨w.heap.size + 1, 0, none⟩ = some (.int .i64 base) := (hk1.cell 0).trans rfl
        have fz1_0 := hk1.frozen 0
        have bx1_1 : w12.cell? ⟨w.heap.size + 1, 1, none⟩ = some (.int .i64 size) := (hk1.cell 1).trans rfl
        have fz1_1 := hk1.frozen 1
        have bx1_2 : w12.cell? ⟨w.heap.size + 1, 2, none⟩ = some (.int .i64 head) := (hk1.cell 2).trans rfl
        have fz1_2 := hk1.frozen 2
        have bx1_3 : w12.cell? ⟨w.heap.size + 1, 3, none⟩ = some (.int .i64 tail) := (hk1.cell 3).trans rfl
        have fz1_3 := hk1.frozen 3
        have bx2_0 : w12.cell? ⟨w.heap.size + 1 + 1, 0, none⟩ = some (.slice none 0 0) := (hk2.cell 0).trans rfl
        have fz2_0 := hk2.frozen 0
        have bx3_0 : w12.cell? ⟨w.heap.size + 1 + 1 + 1, 0, none⟩ = some (.int .i64 0) := (hk3.cell 0).trans rfl
        have fz3_0 := hk3.frozen 0
        have bx3_1 : w12.cell? ⟨w.heap.size + 1 + 1 + 1, 1, none⟩ = some (.int .i64 0) := (hk3.cell 1).trans rfl
        have fz3_1 := hk3.frozen 1
        have bx3_2 : w12.cell? ⟨w.heap.size + 1 + 1 + 1, 2, none⟩ = some (.int .i64 0) := (hk3.cell 2).trans rfl
        have fz3_2 := hk3.frozen 2
        have bx3_3 : w12.cell? ⟨w.heap.size + 1 + 1 + 1, 3, none⟩ = some (.int .i64 0) := (hk3.cell 3).trans rfl
        have fz3_3 := hk3.frozen 3
        have bx4_0 : w12.cell? ⟨bk_4, 0, none⟩ = some (.slice A_v n' c_v) := (hk4.cell 0).trans rfl
        have fz4_0 := hk4.frozen 0
        have bx5_0 : w12.cell? ⟨bk_5, 0, none⟩ = some (.int .i64 base) := (hk5.cell 0).trans rfl
        have fz5_0 := hk5.frozen 0
        have bx5_1 : w12.cell? ⟨bk_5, 1, none⟩ = some (.int .i64 size) := (hk5.cell 1).trans rfl
        have fz5_1 := hk5.frozen 1
        have bx5_2 : w12.cell? ⟨bk_5, 2, none⟩ = some (.int .i64 head) := (hk5.cell 2).trans rfl
        have fz5_2 := hk5.frozen 2
        have bx5_3 : w12.cell? ⟨bk_5, 3, none⟩ = some (.int .i64 tt) := (hk5.cell 3).trans rfl
        have fz5_3 := hk5.frozen 3
        have hc : ChgA (bk_5) w12 (w12.setCell ⟨bk_5, 1, none⟩ (.int .i64 size)) := (ChgA.refl _ _).set _ _
        have hko := hk5
        replace hk0 := hk0.chgA hc (by omega)
        replace hk1 := hk1.chgA hc (by omega)
        replace hk2 := hk2.chgA hc (by omega)
        replace hk3 := hk3.chgA hc (by omega)
        replace hk4 := hk4.chgA hc (by omega)
        replace hk5 : Blk (w12.setCell ⟨bk_5, 1, none⟩ (.int .i64 size)) (bk_5) 69 [.int .i64 base, .int .i64 size, .int .i64 head, .int .i64 tt] := hk5.set_ 1 _
        have k13 : Below w.heap.size w (w12.setCell ⟨bk_5, 1, none⟩ (.int .i64 size)) := hc.below (by omega) k12
        have p13 : (w12.setCell ⟨bk_5, 1, none⟩ (.int .i64 size)).heap.size = w12.heap.size := hc.size
        have bl0 := Nat.lt_of_lt_of_le bl0 (Nat.le_of_eq p13.symm)
        have bl1 := Nat.lt_of_lt_of_le bl1 (Nat.le_of_eq p13.symm)
        have bl2 := Nat.lt_of_lt_of_le bl2 (Nat.le_of_eq p13.symm)
        have bl3 := Nat.lt_of_lt_of_le bl3 (Nat.le_of_eq p13.symm)
        have bl4 := Nat.lt_of_lt_of_le bl4 (Nat.le_of_eq p13.symm)
        have bl5 := Nat.lt_of_lt_of_le bl5 (Nat.le_of_eq p13.symm)
        replace r_a := r_a.below (hc.below (by omega) (Below.refl _ _))
        replace r_b := r_b.below (hc.below (by omega) (Below.refl _ _))
        replace r_p := r_p.below (hc.below (by omega) (Below.refl _ _))
        replace o_v := own_chgA o_v hc (by first | exact own_ty o_v hko (by decide) | exact fun k hk => by have h1 := o_v.lt k hk; omega)
        replace r_v := Reads.of_own o_v
        generalize hW0 : (w12.setCell ⟨bk_5, 1, none⟩ (.int .i64 size)) = w13 at *
        clear hW0 hc hko
        clear bx0_0 fz0_0 bx1_0 fz1_0 bx1_1 fz1_1 bx1_2 fz1_2 bx1_3 fz1_3 bx2_0 fz2_0 bx3_0 fz3_0 bx3_1 fz3_1 bx3_2 fz3_2 bx3_3 fz3_3 bx4_0 fz4_0 bx5_0 fz5_0 bx5_1 fz5_1 bx5_2 fz5_2 bx5_3 fz5_3
        have bx0_0 : w13.cell? ⟨w.heap.size, 0, none⟩ = some (.slice A' n' c') := (hk0.cell 0).trans rfl
        have fz0_0 := hk0.frozen 0
        have bx1_0 : w13.cell? ⟨w.heap.size + 1, 0, none⟩ = some (.int .i64 base) := (hk1.cell 0).trans rfl
        have fz1_0 := hk1.frozen 0
        have bx1_1 : w13.cell? ⟨w.heap.size + 1, 1, none⟩ = some (.int .i64 size) := (hk1.cell 1).trans rfl
        have fz1_1 := hk1.frozen 1
        have bx1_2 : w13.cell? ⟨w.heap.size + 1, 2, none⟩ = some (.int .i64 head) := (hk1.cell 2).trans rfl
        have fz1_2 := hk1.frozen 2
        have bx1_3 : w13.cell? ⟨w.heap.size + 1, 3, none⟩ = some (.int .i64 tail) := (hk1.cell 3).trans rfl
        have fz1_3 := hk1.frozen 3
        have bx2_0 : w13.cell? ⟨w.heap.size + 1 + 1, 0, none⟩ = some (.slice none 0 0) := (hk2.cell 0).trans rfl
        have fz2_0 := hk2.frozen 0
        have bx3_0 : w13.cell? ⟨w.heap.size + 1 + 1 + 1, 0, none⟩ = some (.int .i64 0) := (hk3.cell 0).trans rfl
        have fz3_0 := hk3.frozen 0
        have bx3_1 : w13.cell? ⟨w.heap.size + 1 + 1 + 1, 1, none⟩ = some (.int .i64 0) := (hk3.cell 1).trans rfl
        have fz3_1 := hk3.frozen 1
        have bx3_2 : w13.cell? ⟨w.heap.size + 1 + 1 + 1, 2, none⟩ = some (.int .i64 0) := (hk3.cell 2).trans rfl
        have fz3_2 := hk3.frozen 2
        have bx3_3 : w13.cell? ⟨w.heap.size + 1 + 1 + 1, 3, none⟩ = some (.int .i64 0) := (hk3.cell 3).trans rfl
        have fz3_3 := hk3.frozen 3
        have bx4_0 : w13.cell? ⟨bk_4, 0, none⟩ = some (.slice A_v n' c_v) := (hk4.cell 0).trans rfl
        have fz4_0 := hk4.frozen 0
        have bx5_0 : w13.cell? ⟨bk_5, 0, none⟩ = some (.int .i64 base) := (hk5.cell 0).trans rfl
        have fz5_0 := hk5.frozen 0
        have bx5_1 : w13.cell? ⟨bk_5, 1, none⟩ = some (.int .i64 size) := (hk5.cell 1).trans rfl
        have fz5_1 := hk5.frozen 1
        have bx5_2 : w13.cell? ⟨bk_5, 2, none⟩ = some (.int .i64 head) := (hk5.cell 2).trans rfl
        have fz5_2 := hk5.frozen 2
        have bx5_3 : w13.cell? ⟨bk_5, 3, none⟩ = some (.int .i64 tt) := (hk5.cell 3).trans rfl
        have fz5_3 := hk5.frozen 3
        have hc : ChgA (bk_5) w13 (w13.setCell ⟨bk_5, 2, none⟩ (.int .i64 head)) := (ChgA.refl _ _).set _ _
        have hko := hk5
        replace hk0 := hk0.chgA hc (by omega)
        replace hk1 := hk1.chgA hc (by omega)
        replace hk2 := hk2.chgA hc (by omega)
        replace hk3 := hk3.chgA hc (by omega)
        replace hk4 := hk4.chgA hc (by omega)
        replace hk5 : Blk (w13.setCell ⟨bk_5, 2, none⟩ (.int .i64 head)) (bk_5) 69 [.int .i64 base, .int .i64 size, .int .i64 head, .int .i64 tt] := hk5.set_ 2 _
        have k14 : Below w.heap.size w (w13.setCell ⟨bk_5, 2, none⟩ (.int .i64 head)) := hc.below (by omega) k13
        have p14 : (w13.setCell ⟨bk_5, 2, none⟩ (.int .i64 head)).heap.size = w13.heap.size := hc.size
        have bl0 := Nat.lt_of_lt_of_le bl0 (Nat.le_of_eq p14.symm)
        have bl1 := Nat.lt_of_lt_of_le bl1 (Nat.le_of_eq p14.symm)
        have bl2 := Nat.lt_of_lt_of_le bl2 (Nat.le_of_eq p14.symm)
        have bl3 := Nat.lt_of_lt_of_le bl3 (Nat.le_of_eq p14.symm)
        have bl4 := Nat.lt_of_lt_of_le bl4 (Nat.le_of_eq p14.symm)
        have bl5 := Nat.lt_of_lt_of_le bl5 (Nat.le_of_eq p14.symm)
        replace r_a := r_a.below (hc.below (by omega) (Below.refl _ _))
        replace r_b := r_b.below (hc.below (by omega) (Below.refl _ _))
        replace r_p := r_p.below (hc.below (by omega) (Below.refl _ _))
        replace o_v := own_chgA o_v hc (by first | exact own_ty o_v hko (by decide) | exact fun k hk => by have h1 := o_v.lt k hk; omega)
        replace r_v := Reads.of_own o_v
        generalize hW0 : (w13.setCell ⟨bk_5, 2, none⟩ (.int .i64 head)) = w14 at *
        clear hW0 hc hko
        clear bx0_0 fz0_0 bx1_0 fz1_0 bx1_1 fz1_1 bx1_2 fz1_2 bx1_3 fz1_3 bx2_0 fz2_0 bx3_0 fz3_0 bx3_1 fz3_1 bx3_2 fz3_2 bx3_3 fz3_3 bx4_0 fz4_0 bx5_0 fz5_0 bx5_1 fz5_1 bx5_2 fz5_2 bx5_3 fz5_3
        have bx0_0 : w14.cell? ⟨w.heap.size, 0, none⟩ = some (.slice A' n' c') := (hk0.cell 0).trans rfl
        have fz0_0 := hk0.frozen 0
        have bx1_0 : w14.cell? ⟨w.heap.size + 1, 0, none⟩ = some (.int .i64 base) := (hk1.cell 0).trans rfl
        have fz1_0 := hk1.frozen 0
        have bx1_1 : w14.cell? ⟨w.heap.size + 1, 1, none⟩ = some (.int .i64 size) := (hk1.cell 1).trans rfl
        have fz1_1 := hk1.frozen 1
        have bx1_2 : w14.cell? ⟨w.heap.size + 1, 2, none⟩ = some (.int .i64 head) := (hk1.cell 2).trans rfl
        have fz1_2 := hk1.frozen 2
        have bx1_3 : w14.cell? ⟨w.heap.size + 1, 3, none⟩ = some (.int .i64 tail) := (hk1.cell 3).trans rfl
        have fz1_3 := hk1.frozen 3
        have bx2_0 : w14.cell? ⟨w.heap.size + 1 + 1, 0, none⟩ = some (.slice none 0 0) := (hk2.cell 0).trans rfl
        have fz2_0 := hk2.frozen 0
        have bx3_0 : w14.cell? ⟨w.heap.size + 1 + 1 + 1, 0, none⟩ = some (.int .i64 0) := (hk3.cell 0).trans rfl
        have fz3_0 := hk3.frozen 0
        have bx3_1 : w14.cell? ⟨w.heap.size + 1 + 1 + 1, 1, none⟩ = some (.int .i64 0) := (hk3.cell 1).trans rfl
        have fz3_1 := hk3.frozen 1
        have bx3_2 : w14.cell? ⟨w.heap.size + 1 + 1 + 1, 2, none⟩ = some (.int .i64 0) := (hk3.cell 2).trans rfl
        have fz3_2 := hk3.frozen 2
        have bx3_3 : w14.cell? ⟨w.heap.size + 1 + 1 + 1, 3, none⟩ = some (.int .i64 0) := (hk3.cell 3).trans rfl
        have fz3_3 := hk3.frozen 3
        have bx4_0 : w14.cell? ⟨bk_4, 0, none⟩ = some (.slice A_v n' c_v) := (hk4.cell 0).trans rfl
        have fz4_0 := hk4.frozen 0
        have bx5_0 : w14.cell? ⟨bk_5, 0, none⟩ = some (.int .i64 base) := (hk5.cell 0).trans rfl
        have fz5_0 := hk5.frozen 0
        have bx5_1 : w14.cell? ⟨bk_5, 1, none⟩ = some (.int .i64 size) := (hk5.cell 1).trans rfl
        have fz5_1 := hk5.frozen 1
        have bx5_2 : w14.cell? ⟨bk_5, 2, none⟩ = some (.int .i64 head) := (hk5.cell 2).trans rfl
        have fz5_2 := hk5.frozen 2
        have bx5_3 : w14.cell? ⟨bk_5, 3, none⟩ = some (.int .i64 tt) := (hk5.cell 3).trans rfl
        have fz5_3 := hk5.frozen 3
        have hc : ChgA (bk_5) w14 (w14.setCell ⟨bk_5, 3, none⟩ (.int .i64 (rputT l p d base size head tt x))) := (ChgA.refl _ _).set _ _
        have hko := hk5
        replace hk0 := hk0.chgA hc (by omega)
        replace hk1 := hk1.chgA hc (by omega)
        replace hk2 := hk2.chgA hc (by omega)
        replace hk3 := hk3.chgA hc (by omega)
        replace hk4 := hk4.chgA hc (by omega)
        replace hk5 : Blk (w14.setCell ⟨bk_5, 3, none⟩ (.int .i64 (rputT l p d base size head tt x))) (bk_5) 69 [.int .i64 base, .int .i64 size, .int .i64 head, .int .i64 (rputT l p d base size head tt x)] := hk5.set_ 3 _
        have k15 : Below w.heap.size w (w14.setCell ⟨bk_5, 3, none⟩ (.int .i64 (rputT l p d base size head tt x))) := hc.below (by omega) k14
        have p15 : (w14.setCell ⟨bk_5, 3, none⟩ (.int .i64 (rputT l p d base size head tt x))).heap.size = w14.heap.size := hc.size
        have bl0 := Nat.lt_of_lt_of_le bl0 (Nat.le_of_eq p15.symm)
        have bl1 := Nat.lt_of_lt_of_le bl1 (Nat.le_of_eq p15.symm)
        have bl2 := Nat.lt_of_lt_of_le bl2 (Nat.le_of_eq p15.symm)
        have bl3 := Nat.lt_of_lt_of_le bl3 (Nat.le_of_eq p15.symm)
        have bl4 := Nat.lt_of_lt_of_le bl4 (Nat.le_of_eq p15.symm)
        have bl5 := Nat.lt_of_lt_of_le bl5 (Nat.le_of_eq p15.symm)
        replace r_a := r_a.below (hc.below (by omega) (Below.refl _ _))
        replace r_b := r_b.below (hc.below (by omega) (Below.refl _ _))
        replace r_p := r_p.below (hc.below (by omega) (Below.refl _ _))
        replace o_v := own_chgA o_v hc (by first | exact own_ty o_v hko (by decide) | exact fun k hk => by have h1 := o_v.lt k hk; omega)
        replace r_v := Reads.of_own o_v
        generalize hW0 : (w14.setCell ⟨bk_5, 3, none⟩ (.int .i64 (rputT l p d base size head tt x))) = w15 at *
        clear hW0 hc hko
        clear bx0_0 fz0_0 bx1_0 fz1_0 bx1_1 fz1_1 bx1_2 fz1_2 bx1_3 fz1_3 bx2_0 fz2_0 bx3_0 fz3_0 bx3_1 fz3_1 bx3_2 fz3_2 bx3_3 fz3_3 bx4_0 fz4_0 bx5_0 fz5_0 bx5_1 fz5_1 bx5_2 fz5_2 bx5_3 fz5_3
        have bx0_0 : w15.cell? ⟨w.heap.size, 0, none⟩ = some (.slice A' n' c') := (hk0.cell 0).trans rfl
        have fz0_0 := hk0.frozen 0
        have bx1_0 : w15.cell? ⟨w.heap.size + 1, 0, none⟩ = some (.int .i64 base) := (hk1.cell 0).trans rfl
        have fz1_0 := hk1.frozen 0
        have bx1_1 : w15.cell? ⟨w.heap.size + 1, 1, none⟩ = some (.int .i64 size) := (hk1.cell 1).trans rfl
        have fz1_1 := hk1.frozen 1
        have bx1_2 : w15.cell? ⟨w.heap.size + 1, 2, none⟩ = some (.int .i64 head) := (hk1.cell 2).trans rfl
        have fz1_2 := hk1.frozen 2
        have bx1_3 : w15.cell? ⟨w.heap.size + 1, 3, none⟩ = some (.int .i64 tail) := (hk1.cell 3).trans rfl
        have fz1_3 := hk1.frozen 3
        have bx2_0 : w15.cell? ⟨w.heap.size + 1 + 1, 0, none⟩ = some (.slice none 0 0) := (hk2.cell 0).trans rfl
        have fz2_0 := hk2.frozen 0
        have bx3_0 : w15.cell? ⟨w.heap.size + 1 + 1 + 1, 0, none⟩ = some (.int .i64 0) := (hk3.cell 0).trans rfl
        have fz3_0 := hk3.frozen 0
        have bx3_1 : w15.cell? ⟨w.heap.size + 1 + 1 + 1, 1, none⟩ = some (.int .i64 0) := (hk3.cell 1).trans rfl
        have fz3_1 := hk3.frozen 1
        have bx3_2 : w15.cell? ⟨w.heap.size + 1 + 1 + 1, 2, none⟩ = some (.int .i64 0) := (hk3.cell 2).trans rfl
        have fz3_2 := hk3.frozen 2
        have bx3_3 : w15.cell? ⟨w.heap.size + 1 + 1 + 1, 3, none⟩ = some (.int .i64 0) := (hk3.cell 3).trans rfl
        have fz3_3 := hk3.frozen 3
        have bx4_0 : w15.cell? ⟨bk_4, 0, none⟩ = some (.slice A_v n' c_v) := (hk4.cell 0).trans rfl
        have fz4_0 := hk4.frozen 0
        have bx5_0 : w15.cell? ⟨bk_5, 0, none⟩ = some (.int .i64 base) := (hk5.cell 0).trans rfl
        have fz5_0 := hk5.frozen 0
        have bx5_1 : w15.cell? ⟨bk_5, 1, none⟩ = some (.int .i64 size) := (hk5.cell 1).trans rfl
        have fz5_1 := hk5.frozen 1
        have bx5_2 : w15.cell? ⟨bk_5, 2, none⟩ = some (.int .i64 head) := (hk5.cell 2).trans rfl
        have fz5_2 := hk5.frozen 2
        have bx5_3 : w15.cell? ⟨bk_5, 3, none⟩ = some (.int .i64 (rputT l p d base size head tt x)) := (hk5.cell 3).trans rfl
        have fz5_3 := hk5.frozen 3
        go_roundw
        case rel => exact ⟨k + 1, (rputM l p d base size head tt x), (rputT l p d base size head tt x), A_v, c_v, by omega, by go_num, hT, HPL, HST, k15, hk0, hk1, hk2, hk3, hk4, hk5, own_base o_v (by omega)⟩
        case measure => simp [intOf]; omega
    · have hfin : paG l d base size head es pg tail = some (p, tt) := by rw [← hsc.out, List.drop_eq_nil_of_le (by rw [HN3.out]; omega)]; rfl
      have HB := Lib.hid (pa_some hfin)
      clear hfin
      have bx0_0 : w9.cell? ⟨w.heap.size, 0, none⟩ = some (.slice A' n' c') := (hk0.cell 0).trans rfl
      have fz0_0 := hk0.frozen 0
      have bx1_0 : w9.cell? ⟨w.heap.size + 1, 0, none⟩ = some (.int .i64 base) := (hk1.cell 0).trans rfl
      have fz1_0 := hk1.frozen 0
      have bx1_1 : w9.cell? ⟨w.heap.size + 1, 1, none⟩ = some (.int .i64 size) := (hk1.cell 1).trans rfl
      have fz1_1 := hk1.frozen 1
      have bx1_2 : w9.cell? ⟨w.heap.size + 1, 2, none⟩ = some (.int .i64 head) := (hk1.cell 2).trans rfl
      have fz1_2 := hk1.frozen 2
      have bx1_3 : w9.cell? ⟨w.heap.size + 1, 3, none⟩ = some (.int .i64 tail) := (hk1.cell 3).trans rfl
      have fz1_3 := hk1.frozen 3
      have bx2_0 : w9.cell? ⟨w.heap.size + 1 + 1, 0, none⟩ = some (.slice none 0 0) := (hk2.cell 0).trans rfl
      have fz2_0 := hk2.frozen 0
      have bx3_0 : w9.cell? ⟨w.heap.size + 1 + 1 + 1, 0, none⟩ = some (.int .i64 0) := (hk3.cell 0).trans rfl
      have fz3_0 := hk3.frozen 0
      have bx3_1 : w9.cell? ⟨w.heap.size + 1 + 1 + 1, 1, none⟩ = some (.int .i64 0) := (hk3.cell 1).trans rfl
      have fz3_1 := hk3.frozen 1
      have bx3_2 : w9.cell? ⟨w.heap.size + 1 + 1 + 1, 2, none⟩ = some (.int .i64 0) := (hk3.cell 2).trans rfl
      have fz3_2 := hk3.frozen 2
      have bx3_3 : w9.cell? ⟨w.heap.size + 1 + 1 + 1, 3, none⟩ = some (.int .i64 0) := (hk3.cell 3).trans rfl
      have fz3_3 := hk3.frozen 3
      have bx4_0 : w9.cell? ⟨bk_4, 0, none⟩ = some (.slice A4 n' c4) := (hk4.cell 0).trans rfl
      have fz4_0 := hk4.frozen 0
      have bx5_0 : w9.cell? ⟨bk_5, 0, none⟩ = some (.int .i64 base) := (hk5.cell 0).trans rfl
      have fz5_0 := hk5.frozen 0
      have bx5_1 : w9.cell? ⟨bk_5, 1, none⟩ = some (.int .i64 size) := (hk5.cell 1).trans rfl
      have fz5_1 := hk5.frozen 1
      have bx5_2 : w9.cell? ⟨bk_5, 2, none⟩ = some (.int .i64 head) := (hk5.cell 2).trans rfl
      have fz5_2 := hk5.frozen 2
      have bx5_3 : w9.cell? ⟨bk_5, 3, none⟩ = some (.int .i64 tt) := (hk5.cell 3).trans rfl
      have fz5_3 := hk5.frozen 3
      go_wp2_with fail
      have hBB : w.heap.size ≤ w9.heap.size := by omega
      refine wp_region_slotsS (w.heap.size) [(43, fun _ v => v = .agg #[.slice A4 n' c4]), (44, fun _ v => v = .agg #[.int .i64 base, .int .i64 size, .int .i64 head, .int .i64 tt]), (12, fun _ v => v = .bool true)] [⟨2, 43, fun u => Blk u (w.heap.size + 1 + 1) 39 [.slice none 0 0], fun u _ => Blk u (w.heap.size + 1 + 1) 39 [.slice A4 n' c4]⟩, ⟨3, 44, fun u => Blk u (w.heap.size + 1 + 1 + 1) 69 [.int .i64 0, .int .i64 0, .int .i64 0, .int .i64 0], fun u _ => Blk u (w.heap.size + 1 + 1 + 1) 69 [.int .i64 base, .int .i64 size, .int .i64 head, .int .i64 tt]⟩] (fun u => Blk u (w.heap.size) 39 [.slice A' n' c'] ∧ Blk u (w.heap.size + 1) 69 [.int .i64 base, .int .i64 size, .int .i64 head, .int .i64 tail] ∧ Blk u (bk_4) 39 [.slice A4 n' c4] ∧ Blk u (bk_5) 69 [.int .i64 base, .int .i64 size, .int .i64 head, .int .i64 tt] ∧ u.ownsRow (w.heap.size + 1 + 1 + 1 + 1) 9 1 (.slice A4 n' c4) n' (p.flatMap fun x : ByteArray => [Value.string x])) (by kernel_rfl) hBB (by kernel_rfl) (by kernel_rfl) (by kernel_rfl) (by kernel_rfl) ?_ ?_ ?_ ?_ ?_ ?_ ?_
      · intro p hp
        simp only [List.mem_cons, List.not_mem_nil, or_false] at hp
        rcases hp with rfl | rfl | rfl
        all_goals (intro u u' v hb hv; first | exact hv | exact BoxP.keep hv hb | exact RowP.keep hv hb)
      · intro s hs u u' hb
        simp only [List.mem_cons, List.not_mem_nil, or_false] at hs
        rcases hs with rfl | rfl
        all_goals (refine ⟨fun h => ?_, fun _ h => ?_⟩ <;> first | exact h | exact StoP.keep h hb | exact StoR.keep h hb | exact Blk.ext h hb | exact StaR.keep h hb)
      · intro s hs
        simp only [List.mem_cons, List.not_mem_nil, or_false] at hs
        rcases hs with rfl | rfl
        all_goals first | trivial | exact hk2 | exact hk3
      · exact ⟨hk0, hk1, hk4, hk5, o_q⟩
      · intro u u' hb hj
        obtain ⟨j0, j1, j2, j3, j4⟩ := hj
        exact ⟨(j0.ext hb), (j1.ext hb), (j2.ext hb), (j3.ext hb), (own_ext j4 hb)⟩
      · intro hGk hSk hJk
        refine allStep_cons (stepS_plain hGk hSk hBB hJk (by kernel_rfl) rfl ?_) ?_
        · intro a u hb hz hj hl hp K Q hK
          have e13 : a.tmps[13]?.getD undef = .pointer (some ⟨bk_4, 0, none⟩) := gd (hl 13 (by kernel_rfl))
          obtain ⟨j0, j1, j2, j3, j4⟩ := hj
          have hBb := j2
          have gb0 : u.cell? ⟨bk_4, 0, none⟩ = some (.slice A4 n' c4) := (hBb.cell 0).trans rfl
          go_simp
          exact hK _ _ (Below.refl _ _) (by intro d hd; cases hd; exact rfl)
        refine allStep_cons (stepS_plain hGk hSk hBB hJk (by kernel_rfl) rfl ?_) ?_
        · intro a u hb hz hj hl hp K Q hK
          have e14 : a.tmps[14]?.getD undef = .pointer (some ⟨bk_5, 0, none⟩) := gd (hl 14 (by kernel_rfl))
          obtain ⟨j0, j1, j2, j3, j4⟩ := hj
          have hBb := j3
          have gb0 : u.cell? ⟨bk_5, 0, none⟩ = some (.int .i64 base) := (hBb.cell 0).trans rfl
          have gb1 : u.cell? ⟨bk_5, 1, none⟩ = some (.int .i64 size) := (hBb.cell 1).trans rfl
          have gb2 : u.cell? ⟨bk_5, 2, none⟩ = some (.int .i64 head) := (hBb.cell 2).trans rfl
          have gb3 : u.cell? ⟨bk_5, 3, none⟩ = some (.int .i64 tt) := (hBb.cell 3).trans rfl
          go_simp
          exact hK _ _ (Below.refl _ _) (by intro d hd; cases hd; exact rfl)
        refine allStep_cons (stepS_store (ChgA (w.heap.size + 1 + 1)) (fun _ _ hc hb => hc.below (by omega) hb) (fun _ _ hc => hc.size) (hold_rel ?_) ?_ ?_ rfl rfl ?_) ?_
        · intro p hp
          simp only [List.mem_cons, List.not_mem_nil, or_false] at hp
          rcases hp with rfl | rfl | rfl
          all_goals (intro u u' v hb hv; first | exact hv | exact BoxP.chgA hv hb (by omega) | exact RowP.chgA hv hb (by omega))
        · intro s hs hne u u' hb
          simp only [List.mem_cons, List.not_mem_nil, or_false] at hs
          rcases hs with rfl | rfl
          all_goals first | exact absurd (by rfl) hne | (refine ⟨fun h => ?_, fun _ h => ?_⟩ <;> first | exact h | exact Blk.chgA h hb (by omega) | exact StoP.chgA h hb (by omega) | exact StoR.chgA h hb (by omega) | exact StaR.chgA h hb (by omega) (by omega))
        · intro u u' hb hj
          obtain ⟨j0, j1, j2, j3, j4⟩ := hj
          exact ⟨(j0.chgA hb (by omega)), (j1.chgA hb (by omega)), (j2.chgA hb (by omega)), (j3.chgA hb (by omega)), (own_chgA j4 hb (by first | exact own_ty o_q hk2 (by decide) | exact fun k hk => by have h1 := o_q.lt k hk; omega))⟩
        · intro a u hb hz hj hl hp K Q hK
          have e10 : a.tmps[10]?.getD undef = .pointer (some ⟨w.heap.size + 1 + 1, 0, none⟩) := gd (hl 10 (by kernel_rfl))
          have hBs : Blk u (w.heap.size + 1 + 1) 39 [.slice none 0 0] := hp _ (List.mem_of_getElem? (i := 0) rfl) (by kernel_rfl)
          have gs0 : u.cell? ⟨w.heap.size + 1 + 1, 0, none⟩ = some (.slice none 0 0) := (hBs.cell 0).trans rfl
          have f0 := hBs.frozen 0
          have e43 : a.tmps[43]?.getD undef = .agg #[.slice A4 n' c4] := gd (hl 43 (by kernel_rfl))
          go_simp
          refine hK undef _ ((ChgA.refl _ _).set 0 _) (fun s hs he => ?_)
          simp only [List.mem_cons, List.not_mem_nil, or_false] at hs
          rcases hs with rfl | rfl
          · exact (hBs.set_ 0 _)
          · exact absurd (show (3 : Nat) = 2 from he) (by decide)
        refine allStep_cons (stepS_store (ChgA (w.heap.size + 1 + 1 + 1)) (fun _ _ hc hb => hc.below (by omega) hb) (fun _ _ hc => hc.size) (hold_rel ?_) ?_ ?_ rfl rfl ?_) ?_
        · intro p hp
          simp only [List.mem_cons, List.not_mem_nil, or_false] at hp
          rcases hp with rfl | rfl | rfl
          all_goals (intro u u' v hb hv; first | exact hv | exact BoxP.chgA hv hb (by omega) | exact RowP.chgA hv hb (by omega))
        · intro s hs hne u u' hb
          simp only [List.mem_cons, List.not_mem_nil, or_false] at hs
          rcases hs with rfl | rfl
          all_goals first | exact absurd (by rfl) hne | (refine ⟨fun h => ?_, fun _ h => ?_⟩ <;> first | exact h | exact Blk.chgA h hb (by omega) | exact StoP.chgA h hb (by omega) | exact StoR.chgA h hb (by omega) | exact StaR.chgA h hb (by omega) (by omega))
        · intro u u' hb hj
          obtain ⟨j0, j1, j2, j3, j4⟩ := hj
          exact ⟨(j0.chgA hb (by omega)), (j1.chgA hb (by omega)), (j2.chgA hb (by omega)), (j3.chgA hb (by omega)), (own_chgA j4 hb (by first | exact own_ty o_q hk3 (by decide) | exact fun k hk => by have h1 := o_q.lt k hk; omega))⟩
        · intro a u hb hz hj hl hp K Q hK
          have e11 : a.tmps[11]?.getD undef = .pointer (some ⟨w.heap.size + 1 + 1 + 1, 0, none⟩) := gd (hl 11 (by kernel_rfl))
          have hBs : Blk u (w.heap.size + 1 + 1 + 1) 69 [.int .i64 0, .int .i64 0, .int .i64 0, .int .i64 0] := hp _ (List.mem_of_getElem? (i := 1) rfl) (by kernel_rfl)
          have gs0 : u.cell? ⟨w.heap.size + 1 + 1 + 1, 0, none⟩ = some (.int .i64 0) := (hBs.cell 0).trans rfl
          have gs1 : u.cell? ⟨w.heap.size + 1 + 1 + 1, 1, none⟩ = some (.int .i64 0) := (hBs.cell 1).trans rfl
          have gs2 : u.cell? ⟨w.heap.size + 1 + 1 + 1, 2, none⟩ = some (.int .i64 0) := (hBs.cell 2).trans rfl
          have gs3 : u.cell? ⟨w.heap.size + 1 + 1 + 1, 3, none⟩ = some (.int .i64 0) := (hBs.cell 3).trans rfl
          have f0 := hBs.frozen 0
          have f1 := hBs.frozen 1
          have f2 := hBs.frozen 2
          have f3 := hBs.frozen 3
          have e44 : a.tmps[44]?.getD undef = .agg #[.int .i64 base, .int .i64 size, .int .i64 head, .int .i64 tt] := gd (hl 44 (by kernel_rfl))
          go_simp
          refine hK undef _ (((((ChgA.refl _ _).set 0 _).set 1 _).set 2 _).set 3 _) (fun s hs he => ?_)
          simp only [List.mem_cons, List.not_mem_nil, or_false] at hs
          rcases hs with rfl | rfl
          · exact absurd (show (2 : Nat) = 3 from he) (by decide)
          · exact ((((hBs.set_ 0 _).set_ 1 _).set_ 2 _).set_ 3 _)
        refine allStep_cons (stepS_plain hGk hSk hBB hJk (by kernel_rfl) rfl ?_) ?_
        · intro a u hb hz hj hl hp K Q hK
          go_simp
          exact hK _ _ (Below.refl _ _) (by intro d hd; cases hd; exact rfl)
        exact allStep_nil
      intro xT w10 hb hz hj hL hSt
      clear bx0_0 fz0_0 bx1_0 fz1_0 bx1_1 fz1_1 bx1_2 fz1_2 bx1_3 fz1_3 bx2_0 fz2_0 bx3_0 fz3_0 bx3_1 fz3_1 bx3_2 fz3_2 bx3_3 fz3_3 bx4_0 fz4_0 bx5_0 fz5_0 bx5_1 fz5_1 bx5_2 fz5_2 bx5_3 fz5_3 hk0 hk1 hk2 hk3 hk4 hk5 r_q o_q
      obtain ⟨hk0, hk1, hk4, hk5, o_q⟩ := hj
      have fx12 : xT 12 = .bool true := hL _ (List.mem_of_getElem? (i := 2) rfl)
      have hk2 : Blk w10 (w.heap.size + 1 + 1) 39 [.slice A4 n' c4] := hSt _ (List.mem_of_getElem? (i := 0) rfl)
      have hk3 : Blk w10 (w.heap.size + 1 + 1 + 1) 69 [.int .i64 base, .int .i64 size, .int .i64 head, .int .i64 tt] := hSt _ (List.mem_of_getElem? (i := 1) rfl)
      simp only [List.map, putAll, fx12]
      have k10 : Below w.heap.size w w10 := k9.trans hb
      have p10 : w9.heap.size ≤ w10.heap.size := hb.size
      have bl0 := Nat.lt_of_lt_of_le bl0 hb.size
      have bl1 := Nat.lt_of_lt_of_le bl1 hb.size
      have bl2 := Nat.lt_of_lt_of_le bl2 hb.size
      have bl3 := Nat.lt_of_lt_of_le bl3 hb.size
      have bl4 := Nat.lt_of_lt_of_le bl4 hb.size
      have bl5 := Nat.lt_of_lt_of_le bl5 hb.size
      replace r_a := r_a.below hb
      replace r_b := r_b.below hb
      replace r_p := r_p.below hb
      have r_q := Reads.of_own o_q
      have bx0_0 : w10.cell? ⟨w.heap.size, 0, none⟩ = some (.slice A' n' c') := (hk0.cell 0).trans rfl
      have fz0_0 := hk0.frozen 0
      have bx1_0 : w10.cell? ⟨w.heap.size + 1, 0, none⟩ = some (.int .i64 base) := (hk1.cell 0).trans rfl
      have fz1_0 := hk1.frozen 0
      have bx1_1 : w10.cell? ⟨w.heap.size + 1, 1, none⟩ = some (.int .i64 size) := (hk1.cell 1).trans rfl
      have fz1_1 := hk1.frozen 1
      have bx1_2 : w10.cell? ⟨w.heap.size + 1, 2, none⟩ = some (.int .i64 head) := (hk1.cell 2).trans rfl
      have fz1_2 := hk1.frozen 2
      have bx1_3 : w10.cell? ⟨w.heap.size + 1, 3, none⟩ = some (.int .i64 tail) := (hk1.cell 3).trans rfl
      have fz1_3 := hk1.frozen 3
      have bx2_0 : w10.cell? ⟨w.heap.size + 1 + 1, 0, none⟩ = some (.slice A4 n' c4) := (hk2.cell 0).trans rfl
      have fz2_0 := hk2.frozen 0
      have bx3_0 : w10.cell? ⟨w.heap.size + 1 + 1 + 1, 0, none⟩ = some (.int .i64 base) := (hk3.cell 0).trans rfl
      have fz3_0 := hk3.frozen 0
      have bx3_1 : w10.cell? ⟨w.heap.size + 1 + 1 + 1, 1, none⟩ = some (.int .i64 size) := (hk3.cell 1).trans rfl
      have fz3_1 := hk3.frozen 1
      have bx3_2 : w10.cell? ⟨w.heap.size + 1 + 1 + 1, 2, none⟩ = some (.int .i64 head) := (hk3.cell 2).trans rfl
      have fz3_2 := hk3.frozen 2
      have bx3_3 : w10.cell? ⟨w.heap.size + 1 + 1 + 1, 3, none⟩ = some (.int .i64 tt) := (hk3.cell 3).trans rfl
      have fz3_3 := hk3.frozen 3
      have bx4_0 : w10.cell? ⟨bk_4, 0, none⟩ = some (.slice A4 n' c4) := (hk4.cell 0).trans rfl
      have fz4_0 := hk4.frozen 0
      have bx5_0 : w10.cell? ⟨bk_5, 0, none⟩ = some (.int .i64 base) := (hk5.cell 0).trans rfl
      have fz5_0 := hk5.frozen 0
      have bx5_1 : w10.cell? ⟨bk_5, 1, none⟩ = some (.int .i64 size) := (hk5.cell 1).trans rfl
      have fz5_1 := hk5.frozen 1
      have bx5_2 : w10.cell? ⟨bk_5, 2, none⟩ = some (.int .i64 head) := (hk5.cell 2).trans rfl
      have fz5_2 := hk5.frozen 2
      have bx5_3 : w10.cell? ⟨bk_5, 3, none⟩ = some (.int .i64 tt) := (hk5.cell 3).trans rfl
      have fz5_3 := hk5.frozen 3
      clear hL hSt hb hz fx12
      go_wp2
      refine bodyPost_ret (v := .tuple #[.agg #[.slice A4 n' c4], .agg #[.int .i64 base, .int .i64 size, .int .i64 head, .int .i64 tt], .bool true]) (by simp [results, Try.results51, go_sem, bx2_0, bx3_0, bx3_1, bx3_2, bx3_3]) rfl ?_
      rw [HB.out.2.1]
      exact ⟨A4, c4, by rw [HB.out.1, HB.out.2.2], own_base o_q (by omega), k10⟩
end Go.Proofs.Ytnnlagmgdfhaiaa
