/- Contract of the reference's draws: DrawMapped. -/
import Derived.Test.YtnnlagmgdfhaiaaDrawLst
import Derived.Test.YtnnlagmgdfhaiaaDrawMem2
namespace Go.Proofs.Ytnnlagmgdfhaiaa
set_option linter.unusedSimpArgs false
set_option linter.unusedVariables false
open Go.RowKit Go.ChangeShapes Go.WideShapes
theorem cur_far {w : World} {g : Nat} {A : Option Addr} {n c : Nat} (h : Cur w g A n c) {p : Addr} (hp : p.block ≠ g) (u : Value) : Cur (w.setCell p u) g A n c := by
  obtain ⟨i, k, hk, r⟩ := h; exact ⟨i, k, hk.far' hp u, r⟩
/-- Drawn mappings, memory, domain, address, bytes. -/
def DrawMd (w : World) (e : Ending) (w' : World) : Prop := ∃ (ml : List Mapping) (pg : List ByteArray) (A1 : Option Addr) (c1 : Nat) (A2 : Option Addr) (c2 : Nat) (d a : Int) (s : ByteArray),
  (mapsB ml = true ∧ ml.length ≤ 13 ∧ memB pg = true ∧ 1 ≤ pg.length ∧ pg.length ≤ 6 ∧ 0 ≤ d ∧ d < 2 ∧ 0 ≤ a ∧ a < 1024 ∧ s.size < 200) ∧ e = .returned (.tuple #[.slice A1 ml.length c1, .agg #[.slice A2 pg.length c2], .int .i64 d, .int .i64 a, .string s]) ∧
  w'.ownsRow w.heap.size 51 4 (.slice A1 ml.length c1) ml.length (ml.flatMap Mapping.cells) ∧ w'.ownsRow w.heap.size 9 1 (.slice A2 pg.length c2) pg.length (pg.flatMap fun x : ByteArray => [Value.string x]) ∧ Below w.heap.size w w'
set_option maxRecDepth 100000 in
set_option maxHeartbeats 4000000 in
theorem drawMapped_c (A : Option Addr) (n c : Nat) (l : List Int) (w : World) (hn : l.length = n) (hm : n ≤ 1048576) (hr : Reads w w.heap.size 1 A n (l.flatMap fun x : Int => [Value.int .u8 x])) (hb : ∀ x ∈ l, 0 ≤ x ∧ x ≤ 255) :
    Calls Try.prog 22 #[.slice A n c] w (DrawMd w) := by
  have HN := Lib.hid hn
  go_enter Try.func22, Try.ntmps22
  go_wp2_with fail
  refine (l01New_c A n c l _ HN.out hm (hr.to (by go_grown)) hb).mono ?_
  rintro e w1 ⟨g, rfl, hg0, q1, hbW⟩
  have k1 : Below w.heap.size w w1 := ext_step (by go_grown) (by go_size) hbW
  have B0 := (Blk.new w 39 [.slice none 0 0]).ext hbW
  have hz1 := hbW.size
  simp only [World.size_alloc] at hg0 hz1
  have hr1 : Reads w1 g 1 A n (l.flatMap fun x : Int => [Value.int .u8 x]) := (hr.below k1).more (by omega)
  have hlt0 := q1.lt
  have hne0 : some g ≠ some w.heap.size := fun e => by injection e with e; omega
  clear hbW hn
  go_wp2_with fail
  refine (l17List_c g A n c l _ q1 HN.out hm hr1 hb).mono ?_
  rintro e w2 ⟨ml, A1, c1, ⟨hml, hl13⟩, rfl, o1, q2, hh⟩
  have g2 := hh
  have B2 := blk_kept B0 hh hne0
  clear hh B0
  have hz2 := g2.size
  obtain ⟨jl, hjl⟩ : ∃ j, ml.length = j := ⟨_, rfl⟩
  have HJL := Lib.hid hjl
  rw [hjl] at hl13 o1 ⊢
  clear hjl
  go_wp2_with fail
  refine (l16Memory_c g A n c l _ q2 HN.out hm (reads_cur hr1 g2 hlt0) hb).mono ?_
  rintro e w3 ⟨pg, A2, c2, ⟨hpg, hp1, hp6⟩, rfl, o2, q3, hh⟩
  have g3 := grown_trans g2 hh
  have B3 := blk_kept B2 hh hne0
  have o1 := own_cur o1 hh hlt0
  have hz3 := g3.size
  clear hh B2
  obtain ⟨j, hj⟩ : ∃ j, pg.length = j := ⟨_, rfl⟩
  have HJ := Lib.hid hj
  rw [hj] at hp1 hp6 o2 ⊢
  clear hj
  have hne3 : some g ≠ some w3.heap.size := fun e => by injection e with e; omega
  have D3 := Blk.new w3 39 [.slice A2 j c2]
  have B3 := B3.alloc (.cells #[.slice A2 j c2] 39)
  have o1 := o1.alloc (.cells #[.slice A2 j c2] 39)
  have o2 := o2.alloc (.cells #[.slice A2 j c2] 39)
  have q3 := q3.alloc (.cells #[.slice A2 j c2] 39)
  have g3 := grown_al g3 (.cells #[.slice A2 j c2] 39)
  go_wp2_with fail
  refine (l01Below_c g A n c l _ q3 HN.out hm (reads_cur hr1 g3 hlt0) hb 2 (by decide) (by decide)).mono ?_
  rintro e w4 ⟨d, ⟨d0, d1⟩, rfl, q4, hh⟩
  have g4 := grown_trans g3 hh
  have B3 := blk_kept B3 hh hne0
  have D3 := blk_kept D3 hh hne3
  have o1 := own_cur o1 hh hlt0
  have o2 := own_cur o2 hh (by omega)
  clear hh
  go_wp2_with fail
  refine (l01Below_c g A n c l _ q4 HN.out hm (reads_cur hr1 g4 hlt0) hb 1024 (by decide) (by decide)).mono ?_
  rintro e w5 ⟨at_, ⟨a0, a1⟩, rfl, q5, hh⟩
  have g5 := grown_trans g4 hh
  have b0 := blk_kept B3 hh hne0
  have b3 := blk_kept D3 hh hne3
  have o1 := own_cur o1 hh hlt0
  have o2 := own_cur o2 hh (by omega)
  have hg0 : g < w1.heap.size := hlt0
  have o2 := own_base o2 (base' := w1.heap.size) hz2
  clear hh B3 D3 q3 q4 g3 g4 q2 g2
  have hbl0 := b0.lt
  have hbl3 := b3.lt
  have hgz := g5.size
  go_wp2_with fail
  have c3 : w5.drew.cell? ⟨w3.heap.size, 0, none⟩ = some (.slice A2 j c2) := (b3.cell 0).trans rfl
  have q5 : Cur w5.drew g A n c := q5
  have b0 : Blk w5.drew w.heap.size 39 [.slice none 0 0] := b0
  have b3 : Blk w5.drew w3.heap.size 39 [.slice A2 j c2] := b3
  have o1 := own_ext o1 ((Below.refl _ _).drew)
  have o2 := own_ext o2 ((Below.refl _ _).drew)
  have g5 : w1.grownBy w5.drew (some g) := ⟨g5.os, g5.tape, g5.output, g5.size, g5.block⟩
  go_region_law (go_simp; first
    | (go_at_call 83; refine (l01Below_c g A n c l _ q5 HN.out hm (reads_cur hr1 g5 hlt0) hb 200 (by decide) (by decide)).mono ?_; rintro e w6 ⟨x1, ⟨y0, y1⟩, rfl, q5, hh⟩; have b0 := blk_kept b0 hh hne0; have b3 := blk_kept b3 hh hne3; have c3 := (b3.cell 0).trans rfl; have f3 := b3.frozen 0; have c0 := (b0.cell 0).trans rfl; have f0 := b0.frozen 0; have o1 := own_cur o1 hh hg0; have o2 := own_cur o2 hh hg0; have g5 := grown_trans g5 hh; clear hh; have y2 : x1 ≤ 5000 := (by omega))
    | (go_at_call 84; refine (l01Text_c g A n c l _ q5 HN.out hm (reads_cur hr1 g5 hlt0) hb x1 y0 y2).mono ?_; rintro e w7 ⟨s, hs, rfl, q5, hh⟩; have b0 := blk_kept b0 hh hne0; have b3 := blk_kept b3 hh hne3; have c3 := (b3.cell 0).trans rfl; have f3 := b3.frozen 0; have c0 := (b0.cell 0).trans rfl; have f0 := b0.frozen 0; have o1 := own_cur o1 hh hg0; have o2 := own_cur o2 hh hg0; have g5 := grown_trans g5 hh; clear hh))
  all_goals
    go_wp2
    refine bodyPost_ret (v := .tuple #[.slice A1 jl c1, .agg #[.slice A2 j c2], .int .i64 d, .int .i64 at_, .string s]) (by simp [results, Try.results22, go_sem, *]) rfl ?_
    refine ⟨ml, pg, A1, c1, A2, c2, d, at_, s, ⟨hml, by rw [HJL.out]; exact hl13, hpg, by rw [HJ.out]; exact hp1, by rw [HJ.out]; exact hp6, d0, d1, a0, a1, by omega⟩, by rw [HJL.out, HJ.out], ?_, ?_, ?_⟩
    · rw [HJL.out]; exact own_set_ne (own_base o1 k1.size) (fun e => own_ty o1 b0 (by decide) _ e rfl) _
    · rw [HJ.out]; exact own_set_ne (own_base o2 k1.size) (fun e => own_ty o2 b0 (by decide) _ e rfl) _
    · exact (Below.grown k1 g5 k1.size (fun k hk => by injection hk with hk; omega)).setCell (Nat.le_refl _) _
end Go.Proofs.Ytnnlagmgdfhaiaa
