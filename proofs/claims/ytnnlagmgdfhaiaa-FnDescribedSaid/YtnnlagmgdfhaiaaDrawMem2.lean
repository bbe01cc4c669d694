/- Contract of the reference's draws: l16Memory. -/
import Derived.Test.YtnnlagmgdfhaiaaDrawMem
import Derived.Test.YtnnlagmgdfhaiaaDrawLst
import Derived.Test.YtnnlagmgdfhaiaaSlots4
import Derived.Deep.RegionLaw
namespace Go.Proofs.Ytnnlagmgdfhaiaa
set_option linter.unusedSimpArgs false
set_option linter.unusedVariables false
open Go.RowKit Go.ChangeShapes Go.WideShapes
/-- A drawn memory: sound, one to six pages. -/
def DrawP (g : Nat) (A : Option Addr) (n c : Nat) (w : World) (e : Ending) (w' : World) : Prop := ∃ (pg : List ByteArray) (A2 : Option Addr) (c2 : Nat), (memB pg = true ∧ 1 ≤ pg.length ∧ pg.length ≤ 6) ∧ e = .returned (.agg #[.slice A2 pg.length c2]) ∧ w'.ownsRow w.heap.size 9 1 (.slice A2 pg.length c2) pg.length (pg.flatMap fun x : ByteArray => [Value.string x]) ∧ Cur w' g A n c ∧ w.grownBy w' (some g)
set_option maxRecDepth 100000 in
set_option maxHeartbeats 4000000 in
theorem l16Memory_c (g : Nat) (A : Option Addr) (n c : Nat) (l : List Int) (w : World) (hcur : Cur w g A n c) (hn : l.length = n) (hm : n ≤ 1048576) (hr : Reads w g 1 A n (l.flatMap fun x : Int => [Value.int .u8 x])) (hb : ∀ x ∈ l, 0 ≤ x ∧ x ≤ 255) :
    Calls Try.prog 82 #[.pointer (some ⟨g, 0, none⟩)] w (DrawP g A n c w) := by
  have hlt0 := hcur.lt
  have HN := Lib.hid hn
  clear hn
  have hne2 : some g ≠ some w.heap.size := fun e => by injection e with e; omega
  have q0 := hcur.alloc (.cells #[.slice none 0 0] 39)
  have g0 : w.grownBy (w.alloc (.cells #[.slice none 0 0] 39)) (some g) := grown_al (World.grownBy.refl _ _) _
  have B0 : Blk (w.alloc (.cells #[.slice none 0 0] 39)) w.heap.size 39 [.slice none 0 0] := Blk.new w 39 [.slice none 0 0]
  go_enter Try.func82, Try.ntmps82
  go_wp2_with fail
  refine (l01Below_c g A n c l _ q0 HN.out hm (reads_cur hr g0 hlt0) hb 6 (by decide) (by decide)).mono ?_
  rintro e w1 ⟨x0, ⟨y0, y1⟩, rfl, q1, hh⟩
  have g1 := grown_trans g0 hh
  have B1 := blk_kept B0 hh hne2
  clear hh
  obtain ⟨hmn, hml⟩ := memB_new (k := 1 + x0) (by omega) (by omega)
  go_wp2_with fail
  refine (specNewMemory_c (1 + x0) _ ⟨by omega, by omega⟩).mono ?_
  rintro e w2 ⟨A1, c1, rfl, ho, hbW⟩
  generalize newL (1 + x0) = pg0 at *
  have q2 := cur_below q1 hbW
  have B2 := B1.ext hbW
  have g1z := g1.size
  have g2 := only_below g1 hbW
  have ho := own_base ho (base' := w.heap.size) g1z
  clear hbW
  have hz2 := g2.size
  have hlt2 := B2.lt
  have hne3 : some g ≠ some w2.heap.size := fun e => by injection e with e; omega
  go_wp2_with fail
  refine (l01Below_c g A n c l _ (q2.alloc _) HN.out hm (reads_cur hr (grown_al g2 _) hlt0) hb 4 (by decide) (by decide)).mono ?_
  rintro e w3 ⟨xk, ⟨k0, k1⟩, rfl, q3, hh⟩
  have g3 := grown_trans (grown_al g2 _) hh
  have B3 := blk_kept (B2.alloc _) hh hne2
  have D3 := blk_kept (Blk.new w2 39 [.slice A1 pg0.length c1]) hh hne3
  have own3 := own_far (u := .slice (some ⟨g, 0, none⟩) 0 0) (ho.alloc _) hh (fun q h1 h2 => by
    have h3 : g = q := by simpa [Value.ownBlock] using h2
    have := (ho.lt q h1).1
    omega)
  clear hh
  go_wp2
  go_loopw [4] (fun v wr => ∃ (k : Int) (pg : List ByteArray) (A4 : Option Addr) (c4 : Nat), v = .int .i64 k ∧ k ≤ 3 ∧ Hid (memB pg = true) ∧ 1 ≤ pg.length ∧ pg.length ≤ 6 ∧ Blk wr w.heap.size 39 [.slice none 0 0] ∧ Blk wr w2.heap.size 39 [.slice A4 pg.length c4] ∧ wr.ownsRow w.heap.size 9 1 (.slice A4 pg.length c4) pg.length (pg.flatMap fun x : ByteArray => [Value.string x]) ∧ Cur wr g A n c ∧ w.grownBy wr (some g)) (fun v _ => (intOf v).toNat)
  case atStart => exact ⟨xk, pg0, A1, c1, rfl, by omega, hmn, by omega, by omega, B3, D3, own3, q3, g3⟩
  case round =>
    obtain ⟨k, pg, A4, c4, rfl, hk, hmb, hp1, hp6, b2, b3, own1, q1, hg1⟩ := hrel
    clear B0 B1 B2 B3 D3 own3 q3 g3 ho q2 q0 hmn
    obtain ⟨j, hj⟩ : ∃ j, pg.length = j := ⟨_, rfl⟩
    have HJ := Lib.hid hj
    rw [hj] at hp1 hp6 b3 own1
    have hj0 : 0 < 128 * (j : Int) := by omega
    have hj1 : 128 * (j : Int) ≤ 4611686018427387904 := by omega
    have c3 := (b3.cell 0).trans rfl
    have f3 := b3.frozen 0
    have c2 := (b2.cell 0).trans rfl
    have f2 := b2.frozen 0
    have hbl2 := b2.lt
    have hbl3 := b3.lt
    by_cases hlt : 0 < k
    · clear hj
      have HW := fun (x : Int) (s : ByteArray) => Lib.hid (memB_write hmb.out x s)
      have HWL := fun (x : Int) (s : ByteArray) => Lib.hid ((writeL_len' pg x s).trans HJ.out)
      have HWJ : Hid (IntKind.i64.wrap (128 * (j : Int)) = 128 * (j : Int)) := IntWalk.i64_in _ ⟨by omega, by omega⟩
      go_wp2_with fail
      have e3 : wr.drew.cell? ⟨w2.heap.size, 0, none⟩ = some (.slice A4 j c4) := c3
      have q1 : Cur wr.drew g A n c := q1
      have b2 : Blk wr.drew w.heap.size 39 [.slice none 0 0] := b2
      have b3 : Blk wr.drew w2.heap.size 39 [.slice A4 j c4] := b3
      have own1 := own_ext own1 ((Below.refl _ _).drew)
      have hg1 : w.grownBy wr.drew (some g) := ⟨hg1.os, hg1.tape, hg1.output, hg1.size, hg1.block⟩
      go_region_law (go_simp; first
        | (go_at_call 83; rw [HWJ.out]; refine (l01Below_c g A n c l _ q1 HN.out hm (reads_cur hr hg1 hlt0) hb (128 * (j : Int)) hj0 hj1).mono ?_; rintro e w5 ⟨x1, ⟨y0, y1⟩, rfl, q1, hh⟩; have b2 := blk_kept b2 hh hne2; have b3 := blk_kept b3 hh hne3; have c3 := (b3.cell 0).trans rfl; have f3 := b3.frozen 0; have own1 := own_far (u := .slice (some ⟨g, 0, none⟩) 0 0) own1 hh (fun q h1 h2 => by have h3 : g = q := (by simpa [Value.ownBlock] using h2); have := (own1.lt q h1).1; omega); have hg1 := grown_trans hg1 hh; clear hh)
        | (go_at_call 83; refine (l01Below_c g A n c l _ q1 HN.out hm (reads_cur hr hg1 hlt0) hb 20 (by decide) (by decide)).mono ?_; rintro e w6 ⟨x2, ⟨z0, z1⟩, rfl, q1, hh⟩; have b2 := blk_kept b2 hh hne2; have b3 := blk_kept b3 hh hne3; have c3 := (b3.cell 0).trans rfl; have f3 := b3.frozen 0; have own1 := own_far (u := .slice (some ⟨g, 0, none⟩) 0 0) own1 hh (fun q h1 h2 => by have h3 : g = q := (by simpa [Value.ownBlock] using h2); have := (own1.lt q h1).1; omega); have hg1 := grown_trans hg1 hh; clear hh; have z2 : x2 ≤ 5000 := (by omega))
        | (go_at_call 84; refine (l01Text_c g A n c l _ q1 HN.out hm (reads_cur hr hg1 hlt0) hb x2 z0 z2).mono ?_; rintro e w7 ⟨s, hs, rfl, q1, hh⟩; have b2 := blk_kept b2 hh hne2; have b3 := blk_kept b3 hh hne3; have c3 := (b3.cell 0).trans rfl; have f3 := b3.frozen 0; have own1 := own_far (u := .slice (some ⟨g, 0, none⟩) 0 0) own1 hh (fun q h1 h2 => by have h3 : g = q := (by simpa [Value.ownBlock] using h2); have := (own1.lt q h1).1; omega); have hg1 := grown_trans hg1 hh; clear hh; have hs2 : s.size ≤ 1048576 := (by omega))
        | (go_at_call 24; refine (specWriteMemory_c A4 j c4 pg _ HJ.out (by omega) (Reads.of_own own1) x1 s ⟨by omega, by omega⟩ hs2).mono ?_; rintro e w8 ⟨A5, c5, rfl, own5, hbW⟩; have b2 := b2.ext hbW; have b3 := b3.ext hbW; have c3 := (b3.cell 0).trans rfl; have f3 := b3.frozen 0; have q1 := cur_below q1 hbW; have hgz := hg1.size; have hg1 := only_below hg1 hbW; have own5 := own_base own5 (base' := w.heap.size) hgz; clear hbW))
      all_goals
        go_wp2
        go_roundw
        case rel => exact ⟨k - 1, writeL pg x1 s, A5, c5, rfl, by omega, HW _ _, by rw [(HWL _ _).out]; exact hp1, by rw [(HWL _ _).out]; exact hp6, b2.far' (by show w2.heap.size ≠ w.heap.size; omega) _, by rw [(HWL _ _).out]; exact b3.set_ 0 _, by rw [(HWL _ _).out]; exact own_set_ne own5 (fun e => own_ty own5 b3 (by decide) _ e rfl) _, by obtain ⟨i, h, hbk, r⟩ := q1; exact ⟨i, h, hbk.far' (by show w2.heap.size ≠ g; omega) _, r⟩, only_setCell hg1 (.inr (by show w.heap.size ≤ w2.heap.size; omega)) _⟩
        case measure => simp [intOf]; omega
    · go_wp2
      refine bodyPost_ret (v := .agg #[.slice A4 j c4]) (by simp [results, Try.results82, go_sem, *]) rfl ?_
      refine ⟨pg, A4, c4, ⟨hmb.out, by omega, by omega⟩, by rw [HJ.out], ?_, ?_, ?_⟩
      · rw [HJ.out]; exact own_set_ne own1 (fun e => own_ty own1 b2 (by decide) _ e rfl) _
      · obtain ⟨i, h, hbk, r⟩ := q1; exact ⟨i, h, hbk.far' (by show w.heap.size ≠ g; omega) _, r⟩
      · exact only_setCell hg1 (.inr (Nat.le_refl _)) _
end Go.Proofs.Ytnnlagmgdfhaiaa
