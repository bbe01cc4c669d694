/- Contracts of the reference's draws: l18Pieces, DrawPieces. -/
import Derived.Test.YtnnlagmgdfhaiaaDrawMap
import Derived.Test.YtnnlagmgdfhaiaaPiecesOk
namespace Go.Proofs.Ytnnlagmgdfhaiaa
set_option linter.unusedSimpArgs false
set_option linter.unusedVariables false
open Go.RowKit Go.ChangeShapes Go.WideShapes
theorem info_PieceD : (Try.prog.info? 61).map (fun i => (i.zero, i.size, i.bytes)) = some (some (.agg #[.int .i64 0, .int .i64 0]), 2, 16) := by kernel_rfl
/-- Drawn pieces: at most four. -/
def pcsOk (ps : List Piece) : Prop := ps.length ≤ 4 ∧ ∀ x ∈ ps, 0 ≤ x.at_ ∧ x.at_ < 1024 ∧ 0 ≤ x.ln ∧ x.ln < 40
def DrawQ (g : Nat) (A : Option Addr) (n c : Nat) (w : World) (e : Ending) (w' : World) : Prop := ∃ (ps : List Piece) (A2 : Option Addr) (c2 : Nat), pcsOk ps ∧ e = .returned (.slice A2 ps.length c2) ∧ w'.ownsRow w.heap.size 61 2 (.slice A2 ps.length c2) ps.length (ps.flatMap Piece.cells) ∧ Cur w' g A n c ∧ w.grownBy w' (some g)
theorem flat_snocP (l : List Piece) (x : Piece) : (l ++ [x]).flatMap Piece.cells = l.flatMap Piece.cells ++ x.cells := by simp
set_option maxRecDepth 100000 in
set_option maxHeartbeats 4000000 in
theorem l18Pieces_c (g : Nat) (A : Option Addr) (n c : Nat) (l : List Int) (w : World) (hcur : Cur w g A n c) (hn : l.length = n) (hm : n ≤ 1048576) (hr : Reads w g 1 A n (l.flatMap fun x : Int => [Value.int .u8 x])) (hb : ∀ x ∈ l, 0 ≤ x ∧ x ≤ 255) :
    Calls Try.prog 103 #[.pointer (some ⟨g, 0, none⟩)] w (DrawQ g A n c w) := by
  obtain ⟨i0, hi, hz0, hz1, hz2⟩ := info_parts info_PieceD
  have hlt0 := hcur.lt
  have HN := Lib.hid hn
  clear hn
  go_enter Try.func103, Try.ntmps103
  go_wp2_with fail
  refine (l01Below_c g A n c l _ (hcur.alloc _) HN.out hm (reads_cur hr (grown_al (World.grownBy.refl _ _) _) hlt0) hb 5 (by decide) (by decide)).mono ?_
  rintro e w1 ⟨xk, ⟨k0, k1⟩, rfl, q1, hh⟩
  have own1 := own_cur (own_empty (Blk.new w 61 []) (Nat.le_refl _) (size := 2)) hh hlt0
  have g1 := grown_trans (grown_al (World.grownBy.refl w (some g)) _) hh
  clear hh
  go_wp2
  go_loopw [3, 4] (fun v i wr => ∃ (k : Int) (ps : List Piece) (j : Nat) (u : Value), v = u ∧ i = .int .i64 k ∧ 0 ≤ k ∧ (j : Int) + k ≤ 4 ∧ Hid (ps.length = j) ∧ Hid (∀ x ∈ ps, 0 ≤ x.at_ ∧ x.at_ < 1024 ∧ 0 ≤ x.ln ∧ x.ln < 40) ∧ wr.ownsRow w.heap.size 61 2 u j (ps.flatMap Piece.cells) ∧ Cur wr g A n c ∧ w.grownBy wr (some g)) (fun _ i _ => (intOf i).toNat)
  case atStart => exact ⟨xk, [], 0, _, rfl, rfl, by omega, by omega, Lib.hid rfl, Lib.hid (by simp), own1, q1, g1⟩
  case round =>
    obtain ⟨k, ps, j, u, hu, rfl, hk0, hk, HJ, HP, own2, q2, hg2⟩ := hrel
    have hu := hu.symm
    subst hu
    clear own1 q1 g1
    have hzr := hg2.size
    by_cases hlt : 0 < k
    · go_wp2_with fail
      refine (l01Below_c g A n c l _ q2 HN.out hm (reads_cur hr hg2 hlt0) hb 1024 (by decide) (by decide)).mono ?_
      rintro e w2 ⟨x1, ⟨a1, b1⟩, rfl, q3, hh⟩
      have own3 := own_cur own2 hh hlt0
      have hg3 := grown_trans hg2 hh
      clear hh
      go_wp2_with fail
      refine (l01Below_c g A n c l _ q3 HN.out hm (reads_cur hr hg3 hlt0) hb 40 (by decide) (by decide)).mono ?_
      rintro e w3 ⟨x2, ⟨a2, b2⟩, rfl, q4, hh⟩
      have own4 := own_cur own3 hh hlt0
      have hg4 := grown_trans hg3 hh
      clear hh own2 own3
      go_wp2_with (at_builtin; refine wpList_append_own _ rfl _ _ 62 rfl w.heap.size 61 i0 (.agg #[.int .i64 0, .int .i64 0]) 2 16 Try.underlying62 hi hz0 hz1 hz2 rfl (by decide) _ _ _ rfl (own4.alloc _) ⟨w3.heap.size, 0, none⟩ 1 1 [.int .i64 x1, .int .i64 x2] rfl rfl (cells_new _ _ _) ?c2 ?c3 ?c4 ?c5 ?_; (case c2 => (intro u hu; simp at hu; rcases hu with rfl | rfl <;> rfl)); (case c3 => (unfold maxLen; omega)); (case c4 => omega); (case c5 => (simp only [World.size_alloc]; have := hg4.size; omega)); intro v2 w4 hown2 hg5 hn2; have hq2 := cur_kept (q4.alloc _) hg5 (fun e => by have := (own4.lt _ e).1; omega); have hg6 := grown_own (grown_al hg4 _) (own4.alloc _) hg5; clear hn2 hg5)
      go_roundw
      case rel => exact ⟨k - 1, ps ++ [⟨x1, x2⟩], j + 1, v2, rfl, rfl, by omega, by omega, Lib.hid (by simp [HJ.out]), Lib.hid (fun x hx => by
        rcases List.mem_append.1 hx with hx | hx
        · exact HP.out x hx
        · simp at hx; subst hx; exact ⟨a1, b1, a2, b2⟩), by rw [flat_snocP]; exact hown2, hq2, hg6⟩
      case measure => simp [intOf]; omega
    · go_wp2
      go_ret
      obtain ⟨A2, c2, rfl, _, _, _⟩ := own_form own2
      have hj := HJ.out
      subst hj
      exact ⟨ps, A2, c2, ⟨by omega, HP.out⟩, rfl, own2, q2, hg2⟩
theorem mapL_phy {l : List Mapping} {x : Mapping} {m : Int} (h : ∀ y ∈ l, y.phy ≤ m) (hx : x.phy ≤ m) : ∀ y ∈ mapL l x, y.phy ≤ m := by
  intro y hy
  unfold mapL at hy
  split at hy
  · rcases List.mem_append.1 hy with hy | hy
    · exact h y hy
    · simp at hy; subst hy; exact hx
  · exact h y hy
/-- Drawn mappings, memory, domain, pieces, bytes. -/
def DrawPd (w : World) (e : Ending) (w' : World) : Prop := ∃ (ml : List Mapping) (pg : List ByteArray) (A1 : Option Addr) (c1 : Nat) (A2 : Option Addr) (c2 : Nat) (ps : List Piece) (A3 : Option Addr) (c3 : Nat) (s : ByteArray),
  (mapsB ml = true ∧ ml.length ≤ 8 ∧ (∀ x ∈ ml, x.phy ≤ 5) ∧ memB pg = true ∧ pg.length = 6 ∧ pcsOk ps ∧ s.size < 80) ∧ e = .returned (.tuple #[.slice A1 ml.length c1, .agg #[.slice A2 6 c2], .int .i64 0, .slice A3 ps.length c3, .string s]) ∧
  w'.ownsRow w.heap.size 51 4 (.slice A1 ml.length c1) ml.length (ml.flatMap Mapping.cells) ∧ w'.ownsRow w.heap.size 9 1 (.slice A2 6 c2) 6 (pg.flatMap fun x : ByteArray => [Value.string x]) ∧ w'.ownsRow w.heap.size 61 2 (.slice A3 ps.length c3) ps.length (ps.flatMap Piece.cells) ∧ Below w.heap.size w w'
set_option maxRecDepth 100000 in
set_option maxHeartbeats 4000000 in
theorem drawPieces_c (A : Option Addr) (n c : Nat) (l : List Int) (w : World) (hn : l.length = n) (hm : n ≤ 1048576) (hr : Reads w w.heap.size 1 A n (l.flatMap fun x : Int => [Value.int .u8 x])) (hb : ∀ x ∈ l, 0 ≤ x ∧ x ≤ 255) :
    Calls Try.prog 41 #[.slice A n c] w (DrawPd w) := by
  have HN := Lib.hid hn
  obtain ⟨hmn, hml⟩ := memB_new (k := 6) (by decide) (by decide)
  go_enter Try.func41, Try.ntmps41
  go_wp2_with fail
  refine (l01New_c A n c l _ HN.out hm (hr.to (by go_grown)) hb).mono ?_
  rintro e w1 ⟨g, rfl, hg0, q1, hbW⟩
  have k1 : Below w.heap.size w w1 := ext_step (by go_grown) (by go_size) hbW
  have B0 := (Blk.new w 39 [.slice none 0 0]).ext hbW
  have hz1 := hbW.size
  simp only [World.size_alloc] at hg0 hz1
  have hr1 : Reads w1 g 1 A n (l.flatMap fun x : Int => [Value.int .u8 x]) := (hr.below k1).more (by omega)
  have hlt0 := q1.lt
  have hne0 : some g ≠ some w.heap.size := fun e => by injection e with e; omega
  clear hbW hn
  have o1 := own_empty (Blk.new w1 51 []) (Nat.le_refl _) (size := 4)
  have q1 := q1.alloc (.cells #[] 51)
  have B0 := B0.alloc (.cells #[] 51)
  have g1 : w1.grownBy (w1.alloc (.cells #[] 51)) (some g) := grown_al (World.grownBy.refl _ _) _
  go_wp2_with fail
  go_loopw [8, 9] (fun v i wr => ∃ (k : Nat) (ml : List Mapping) (A4 : Option Addr) (c4 : Nat), v = .slice A4 ml.length c4 ∧ i = .int .i64 (k : Int) ∧ k ≤ 8 ∧ ml.length ≤ k ∧ Hid (mapsB ml = true ∧ ∀ x ∈ ml, x.phy ≤ 5) ∧ wr.ownsRow w1.heap.size 51 4 (.slice A4 ml.length c4) ml.length (ml.flatMap Mapping.cells) ∧ Blk wr w.heap.size 39 [.slice none 0 0] ∧ Cur wr g A n c ∧ w1.grownBy wr (some g)) (fun _ i _ => 8 - (intOf i).toNat)
  case atStart => exact ⟨0, [], some ⟨w1.heap.size, 0, none⟩, 0, rfl, rfl, by omega, by simp, Lib.hid ⟨by decide, by simp⟩, o1, B0, q1, g1⟩
  case round =>
    obtain ⟨k, ml, A4, c4, rfl, rfl, hk, hlk, hmb, o2, B2, q2, g2⟩ := hrel
    clear o1 q1 g1 B0
    obtain ⟨j, hj⟩ : ∃ j, ml.length = j := ⟨_, rfl⟩
    have HJ := Lib.hid hj
    rw [hj] at hlk o2 ⊢
    clear hj
    have hz2 := g2.size
    by_cases hlt : k < 8
    · have l1 : (k : Int) < 8 := by omega
      go_wp2_with fail
      refine (l17Mapping_c g A n c l _ q2 HN.out hm (reads_cur hr1 g2 hlt0) hb).mono ?_
      rintro e w4 ⟨dom, vir, phy, wb, hbd, rfl, q4, hh⟩
      have o4 := own_cur o2 hh hlt0
      have g4 := grown_trans g2 hh
      have B4 := blk_kept B2 hh hne0
      have hph : phy ≤ 5 := by omega
      have hz4 := g4.size
      have hgw : w4.heap.size ≠ g := by omega
      have hgw0 : w4.heap.size ≠ w.heap.size := by omega
      clear hh hbd o2 q2 g2 B2
      have D4 : Blk (w4.alloc (.cells #[.int .i64 0, .int .i64 (k : Int), .int .i64 phy, .bool wb] 51)) w4.heap.size 51 [.int .i64 0, .int .i64 (k : Int), .int .i64 phy, .bool wb] := Blk.new w4 51 [.int .i64 0, .int .i64 (k : Int), .int .i64 phy, .bool wb]
      have q5 : Cur (w4.alloc (.cells #[.int .i64 0, .int .i64 (k : Int), .int .i64 phy, .bool wb] 51)) g A n c := q4.alloc _
      have g5 : w1.grownBy (w4.alloc (.cells #[.int .i64 0, .int .i64 (k : Int), .int .i64 phy, .bool wb] 51)) (some g) := grown_al g4 _
      have o5 : (w4.alloc (.cells #[.int .i64 0, .int .i64 (k : Int), .int .i64 phy, .bool wb] 51)).ownsRow w1.heap.size 51 4 (.slice A4 j c4) j (ml.flatMap Mapping.cells) := o4.alloc _
      have B5 : Blk (w4.alloc (.cells #[.int .i64 0, .int .i64 (k : Int), .int .i64 phy, .bool wb] 51)) w.heap.size 39 [.slice none 0 0] := B4.alloc _
      have hgb : ∀ q, (Value.slice A4 j c4).ownBlock = some q → q < w4.heap.size := fun q hq => (o4.lt q hq).2
      go_wp2_with fail
      refine (l01Once_c g A n c l _ q5 HN.out hm (reads_cur hr1 g5 hlt0) hb 10 (by decide) (by decide)).mono ?_
      rintro e w5 ⟨bb, rfl, q6, hh⟩
      have o6 := own_cur o5 hh hlt0
      have g6 := grown_trans g5 hh
      have B6 := blk_kept B5 hh hne0
      have D6 := blk_kept D4 hh (fun e => by injection e with e; omega)
      clear hh o5 g5 B5 D4 q5 q4 o4 g4 B4
      have d0 := (D6.cell 0).trans rfl
      have e0 := D6.frozen 0
      have d1 := (D6.cell 1).trans rfl
      have e1 := D6.frozen 1
      have d2 := (D6.cell 2).trans rfl
      have e2 := D6.frozen 2
      have d3 := (D6.cell 3).trans rfl
      have e3 := D6.frozen 3
      have hdl := D6.lt
      have D7 := D6.set_ 3 (.bool (!bb))
      have q7 : Cur (w5.setCell ⟨w4.heap.size, 3, none⟩ (.bool (!bb))) g A n c := cur_far q6 hgw _
      have g7 : w1.grownBy (w5.setCell ⟨w4.heap.size, 3, none⟩ (.bool (!bb))) (some g) := only_setCell g6 (.inr hz4) _
      have o7 : (w5.setCell ⟨w4.heap.size, 3, none⟩ (.bool (!bb))).ownsRow w1.heap.size 51 4 (.slice A4 j c4) j (ml.flatMap Mapping.cells) := own_set_ne o6 (fun e => by have h9 : w4.heap.size < w4.heap.size := hgb _ e; omega) _
      have B7 : Blk (w5.setCell ⟨w4.heap.size, 3, none⟩ (.bool (!bb))) w.heap.size 39 [.slice none 0 0] := B6.far' hgw0 _
      go_wp2_with fail
      refine (specMapPage_c A4 j c4 ml _ HJ.out (by omega) (Reads.of_own o7) ⟨0, (k : Int), phy, !bb⟩).mono ?_
      rintro e w8 ⟨A5, c5, rfl, o8, hbW⟩
      have HO := Lib.hid (mapL_ok (⟨0, (k : Int), phy, !bb⟩ : Mapping) hmb.out.1)
      have HL := Lib.hid (mapL_len2 ml (⟨0, (k : Int), phy, !bb⟩ : Mapping))
      have HQ := Lib.hid (mapL_phy (x := (⟨0, (k : Int), phy, !bb⟩ : Mapping)) hmb.out.2 hph)
      have q8 := cur_below q7 hbW
      have hz7 := g7.size
      have g8 := only_below g7 hbW
      have B8 := B7.ext hbW
      have o8 := own_base o8 (base' := w1.heap.size) hz7
      clear hbW d0 e0 d1 e1 d2 e2 d3 e3 D6 D7 q6 q7 g6 g7 o6 o7 B6 B7
      go_wp2
      go_roundw
      case rel => exact ⟨k + 1, mapL ml ⟨0, (k : Int), phy, !bb⟩, A5, c5, rfl, by go_num, by omega, by have := HL.out; have := HJ.out; omega, Lib.hid ⟨HO.out, HQ.out⟩, o8, B8, q8, g8⟩
      case measure => simp [intOf]; omega
    · have l1 : ¬ (k : Int) < 8 := by omega
      go_wp2_with fail
      refine (specNewMemory_c 6 _ ⟨by decide, by decide⟩).mono ?_
      rintro e w3 ⟨A2, c2, rfl, o3, hbW⟩
      generalize newL 6 = pg at *
      have hpl : pg.length = 6 := by omega
      rw [hpl] at o3 ⊢
      have HPL := Lib.hid hpl
      clear hpl hml
      have q3 := cur_below q2 hbW
      have g3 := only_below g2 hbW
      have B3 := B2.ext hbW
      have o2 := own_ext o2 hbW
      have o3 := own_base o3 (base' := w1.heap.size) hz2
      clear hbW B2 q2 g2
      have hz3 := g3.size
      have hne3 : some g ≠ some w3.heap.size := fun e => by injection e with e; omega
      have D3 := Blk.new w3 39 [.slice A2 6 c2]
      have B3 := B3.alloc (.cells #[.slice A2 6 c2] 39)
      have o2 := o2.alloc (.cells #[.slice A2 6 c2] 39)
      have o3 := o3.alloc (.cells #[.slice A2 6 c2] 39)
      have q3 := q3.alloc (.cells #[.slice A2 6 c2] 39)
      have g3 := grown_al g3 (.cells #[.slice A2 6 c2] 39)
      go_wp2_with fail
      refine (l18Pieces_c g A n c l _ q3 HN.out hm (reads_cur hr1 g3 hlt0) hb).mono ?_
      rintro e w5 ⟨ps, A3, cz, hps, rfl, o4, q5, hh⟩
      have g5 := grown_trans g3 hh
      have b0 := blk_kept B3 hh hne0
      have b3 := blk_kept D3 hh hne3
      have o1 := own_cur o2 hh hlt0
      have o2 := own_cur o3 hh hlt0
      have hgs3 := g3.size
      have o3 := own_base o4 (base' := w1.heap.size) hgs3
      have hgl : g < w1.heap.size := hlt0
      clear hh B3 D3 q3 g3 o4
      obtain ⟨jp, hjp⟩ : ∃ j, ps.length = j := ⟨_, rfl⟩
      rw [hjp] at o3 ⊢
      have HJP := Lib.hid hjp
      clear hjp
      have hbl0 := b0.lt
      have hbl3 := b3.lt
      have hgz := g5.size
      go_wp2_with fail
      have c3' : w5.drew.cell? ⟨w3.heap.size, 0, none⟩ = some (.slice A2 6 c2) := (b3.cell 0).trans rfl
      have q5 : Cur w5.drew g A n c := q5
      have b0 : Blk w5.drew w.heap.size 39 [.slice none 0 0] := b0
      have b3 : Blk w5.drew w3.heap.size 39 [.slice A2 6 c2] := b3
      have o1 := own_ext o1 ((Below.refl _ _).drew)
      have o2 := own_ext o2 ((Below.refl _ _).drew)
      have o3 := own_ext o3 ((Below.refl _ _).drew)
      have g5 : w1.grownBy w5.drew (some g) := ⟨g5.os, g5.tape, g5.output, g5.size, g5.block⟩
      go_region_law (go_simp; first
        | (go_at_call 83; refine (l01Below_c g A n c l _ q5 HN.out hm (reads_cur hr1 g5 hlt0) hb 80 (by decide) (by decide)).mono ?_; rintro e w6 ⟨x1, ⟨y0, y1⟩, rfl, q5, hh⟩; have b0 := blk_kept b0 hh hne0; have b3 := blk_kept b3 hh hne3; have c3 := (b3.cell 0).trans rfl; have f3 := b3.frozen 0; have c0 := (b0.cell 0).trans rfl; have f0 := b0.frozen 0; have o1 := own_cur o1 hh hgl; have o2 := own_cur o2 hh hgl; have o3 := own_cur o3 hh hgl; have g5 := grown_trans g5 hh; clear hh; have y2 : x1 ≤ 5000 := (by omega))
        | (go_at_call 84; refine (l01Text_c g A n c l _ q5 HN.out hm (reads_cur hr1 g5 hlt0) hb x1 y0 y2).mono ?_; rintro e w7 ⟨s, hs, rfl, q5, hh⟩; have b0 := blk_kept b0 hh hne0; have b3 := blk_kept b3 hh hne3; have c3 := (b3.cell 0).trans rfl; have f3 := b3.frozen 0; have c0 := (b0.cell 0).trans rfl; have f0 := b0.frozen 0; have o1 := own_cur o1 hh hgl; have o2 := own_cur o2 hh hgl; have o3 := own_cur o3 hh hgl; have g5 := grown_trans g5 hh; clear hh))
      all_goals
        go_wp2
        refine bodyPost_ret (v := .tuple #[.slice A4 j c4, .agg #[.slice A2 6 c2], .int .i64 0, .slice A3 jp cz, .string s]) (by simp [results, Try.results41, go_sem, *]) rfl ?_
        refine ⟨ml, pg, A4, c4, A2, c2, ps, A3, cz, s, ⟨hmb.out.1, by rw [HJ.out]; omega, hmb.out.2, hmn, HPL.out, hps, by omega⟩, by rw [HJ.out, HJP.out], ?_, ?_, ?_, ?_⟩
        · rw [HJ.out]; exact own_set_ne (own_base o1 k1.size) (fun e => own_ty o1 b0 (by decide) _ e rfl) _
        · exact own_set_ne (own_base o2 k1.size) (fun e => own_ty o2 b0 (by decide) _ e rfl) _
        · rw [HJP.out]; exact own_set_ne (own_base o3 k1.size) (fun e => own_ty o3 b0 (by decide) _ e rfl) _
        · exact (Below.grown k1 g5 k1.size (fun k hk => by injection hk with hk; omega)).setCell (Nat.le_refl _) _
end Go.Proofs.Ytnnlagmgdfhaiaa
