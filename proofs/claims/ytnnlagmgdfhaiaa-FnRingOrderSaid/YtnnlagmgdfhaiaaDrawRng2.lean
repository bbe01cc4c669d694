/- Contracts of the reference's draws: l20World, DrawRing. -/
import Derived.Test.YtnnlagmgdfhaiaaDrawRng
import Derived.Test.YtnnlagmgdfhaiaaDmaQ
import Derived.Test.YtnnlagmgdfhaiaaWriteMem
import Derived.Test.YtnnlagmgdfhaiaaSlots4
namespace Go.Proofs.Ytnnlagmgdfhaiaa
set_option linter.unusedSimpArgs false
set_option linter.unusedVariables false
open Go.RowKit Go.ChangeShapes Go.WideShapes
/-- Mappings of the first pages: page v lies at 4 - v. -/
def worldL (ml : List Mapping) : Prop := ∀ v : Nat, v < ml.length → ∃ wb : Bool, ml[v]? = some ⟨0, (v : Int), 4 - (v : Int), wb⟩
theorem world_maps {ml : List Mapping} (h : worldL ml) (hl : ml.length ≤ 5) : mapsB ml = true := by
  refine maps_iff.2 ⟨by omega, fun x hx => ?_, ?_⟩
  · obtain ⟨v, hv⟩ := List.getElem?_of_mem hx
    obtain ⟨wb, e⟩ := h v (List.getElem?_eq_some_iff.1 hv).1
    rw [hv] at e
    injection e with e
    subst e
    have := (List.getElem?_eq_some_iff.1 hv).1
    simp [mapIn, inB]; omega
  · rw [List.pairwise_iff_getElem]
    intro i j hi hj hij hc
    obtain ⟨a, ea⟩ := h i hi
    obtain ⟨b, eb⟩ := h j hj
    rw [List.getElem?_eq_getElem hi] at ea
    rw [List.getElem?_eq_getElem hj] at eb
    injection ea with ea
    injection eb with eb
    rw [ea, eb] at hc
    have := hc.2
    simp at this
    omega
theorem world_next {ml : List Mapping} {k : Nat} {wb : Bool} (h : worldL ml) (hk : ml.length = k) (hl : k < 5) : worldL (mapL ml ⟨0, (k : Int), 4 - (k : Int), wb⟩) ∧ (mapL ml ⟨0, (k : Int), 4 - (k : Int), wb⟩).length = k + 1 := by
  have h1 : worldL (ml ++ [⟨0, (k : Int), 4 - (k : Int), wb⟩]) := by
    intro v hv
    by_cases hvk : v < k
    · obtain ⟨b, e⟩ := h v (by omega)
      exact ⟨b, by rw [List.getElem?_append_left (by omega)]; exact e⟩
    · have : v = k := by simp at hv; omega
      subst this
      exact ⟨wb, by rw [List.getElem?_append_right (by omega), hk]; simp⟩
  have h2 : mapOk ml ⟨0, (k : Int), 4 - (k : Int), wb⟩ = true := by
    rw [mapOk, world_maps h (by omega), world_maps h1 (by simp; omega)]; rfl
  rw [mapL, if_pos h2]
  exact ⟨h1, by simp [hk]⟩
def DrawW (g : Nat) (A : Option Addr) (n c : Nat) (w : World) (e : Ending) (w' : World) : Prop := ∃ (ml : List Mapping) (pg : List ByteArray) (A1 : Option Addr) (c1 : Nat) (A2 : Option Addr) (c2 : Nat), (ml.length = 5 ∧ worldL ml ∧ memB pg = true ∧ pg.length = 5) ∧ e = .returned (.tuple #[.slice A1 5 c1, .agg #[.slice A2 5 c2]]) ∧
  w'.ownsRow w.heap.size 51 4 (.slice A1 5 c1) 5 (ml.flatMap Mapping.cells) ∧ w'.ownsRow w.heap.size 9 1 (.slice A2 5 c2) 5 (pg.flatMap fun x : ByteArray => [Value.string x]) ∧ Cur w' g A n c ∧ w.grownBy w' (some g)
set_option maxRecDepth 100000 in
set_option maxHeartbeats 8000000 in
theorem l20World_c (g : Nat) (A : Option Addr) (n c : Nat) (l : List Int) (w : World) (hcur : Cur w g A n c) (hn : l.length = n) (hm : n ≤ 1048576) (hr : Reads w g 1 A n (l.flatMap fun x : Int => [Value.int .u8 x])) (hb : ∀ x ∈ l, 0 ≤ x ∧ x ≤ 255) :
    Calls Try.prog 106 #[.pointer (some ⟨g, 0, none⟩)] w (DrawW g A n c w) := by
  have hlt0 := hcur.lt
  have HN := Lib.hid hn
  clear hn
  obtain ⟨hmn, hml⟩ := memB_new (k := 5) (by decide) (by decide)
  have hne0 : some g ≠ some w.heap.size := fun e => by injection e with e; omega
  have q0 := (hcur.alloc (.cells #[.slice none 0 0] 39)).alloc (.cells #[] 51)
  have g0 : w.grownBy ((w.alloc (.cells #[.slice none 0 0] 39)).alloc (.cells #[] 51)) (some g) := grown_al (grown_al (World.grownBy.refl _ _) _) _
  have B0 : Blk ((w.alloc (.cells #[.slice none 0 0] 39)).alloc (.cells #[] 51)) w.heap.size 39 [.slice none 0 0] := (Blk.new w 39 [.slice none 0 0]).alloc _
  have o0 := own_empty (Blk.new (w.alloc (.cells #[.slice none 0 0] 39)) 51 []) (Nat.le_refl _) (size := 4)
  have o0 := own_base o0 (base' := w.heap.size) (by simp)
  go_enter Try.func106, Try.ntmps106
  go_wp2_with fail
  go_loopw [4, 5] (fun v i wr => ∃ (k : Nat) (ml : List Mapping) (A4 : Option Addr) (c4 : Nat), v = .slice A4 k c4 ∧ i = .int .i64 (k : Int) ∧ k ≤ 5 ∧ Hid (ml.length = k ∧ worldL ml) ∧ wr.ownsRow w.heap.size 51 4 (.slice A4 k c4) k (ml.flatMap Mapping.cells) ∧ Blk wr w.heap.size 39 [.slice none 0 0] ∧ Cur wr g A n c ∧ w.grownBy wr (some g)) (fun _ i _ => 5 - (intOf i).toNat)
  case atStart => exact ⟨0, [], some ⟨w.heap.size + 1, 0, none⟩, 0, by simp, rfl, by omega, Lib.hid ⟨rfl, fun v hv => by simp at hv⟩, by simpa using o0, B0, q0, g0⟩
  case round =>
    obtain ⟨k, ml, A4, c4, rfl, rfl, hk, HM, o2, B2, q2, g2⟩ := hrel
    clear o0 q0 g0 B0
    have hz2 := g2.size
    by_cases hlt : k < 5
    · have l1 : (k : Int) < 5 := by omega
      go_wp2_with fail
      refine (l01Once_c g A n c l _ q2 HN.out hm (reads_cur hr g2 hlt0) hb 10 (by decide) (by decide)).mono ?_
      rintro e w5 ⟨bb, rfl, q6, hh⟩
      have o6 := own_cur o2 hh hlt0
      have g6 := grown_trans g2 hh
      have B6 := blk_kept B2 hh hne0
      clear hh o2 q2 g2 B2
      have hz6 := g6.size
      have HX := Lib.hid (world_next (wb := !bb) HM.out.2 HM.out.1 hlt)
      go_wp2_with fail
      refine (specMapPage_c A4 k c4 ml _ HM.out.1 (by omega) (Reads.of_own o6) ⟨0, (k : Int), 4 - (k : Int), !bb⟩).mono ?_
      rintro e w8 ⟨A5, c5, rfl, o8, hbW⟩
      rw [HX.out.2] at o8 ⊢
      have q8 := cur_below q6 hbW
      have g8 := only_below g6 hbW
      have B8 := B6.ext hbW
      have o8 := own_base o8 (base' := w.heap.size) hz6
      clear hbW o6 q6 g6 B6
      go_wp2
      go_roundw
      case rel => exact ⟨k + 1, mapL ml ⟨0, (k : Int), 4 - (k : Int), !bb⟩, A5, c5, rfl, by go_num, by omega, Lib.hid ⟨HX.out.2, HX.out.1⟩, o8, B8, q8, g8⟩
      case measure => simp [intOf]; omega
    · have l1 : ¬ (k : Int) < 5 := by omega
      have hk5 : k = 5 := by omega
      subst hk5
      go_wp2_with fail
      refine (specNewMemory_c 5 _ ⟨by decide, by decide⟩).mono ?_
      rintro e w3 ⟨A2, c2, rfl, o3, hbW⟩
      generalize newL 5 = pg at *
      have hpl : pg.length = 5 := by omega
      rw [hpl] at o3 ⊢
      have HPL := Lib.hid hpl
      clear hpl hml
      have q3 := cur_below q2 hbW
      have g3 := only_below g2 hbW
      have B3 := B2.ext hbW
      have o1 := own_ext o2 hbW
      have o2 := own_base o3 (base' := w.heap.size) hz2
      clear hbW B2 q2 g2 o3
      have hz3 := g3.size
      have hne3 : some g ≠ some w3.heap.size := fun e => by injection e with e; omega
      have hlw3 : w.heap.size < w3.heap.size := B3.lt
      have b3 := Blk.new w3 39 [.slice A2 5 c2]
      have b0 := B3.alloc (.cells #[.slice A2 5 c2] 39)
      have o1 := o1.alloc (.cells #[.slice A2 5 c2] 39)
      have o2 := o2.alloc (.cells #[.slice A2 5 c2] 39)
      have q5 := q3.alloc (.cells #[.slice A2 5 c2] 39)
      have g5 := grown_al g3 (.cells #[.slice A2 5 c2] 39)
      clear B3 q3 g3
      go_wp2_with fail
      generalize hX : w3.alloc (.cells #[.slice A2 5 c2] 39) = w4 at *
      clear hX
      have c3 : w4.drew.cell? ⟨w3.heap.size, 0, none⟩ = some (.slice A2 5 c2) := (b3.cell 0).trans rfl
      have q5 : Cur w4.drew g A n c := q5
      have b0 : Blk w4.drew w.heap.size 39 [.slice none 0 0] := b0
      have b3 : Blk w4.drew w3.heap.size 39 [.slice A2 5 c2] := b3
      have f3 := b3.frozen 0
      have o1 := own_ext o1 ((Below.refl _ _).drew)
      have o2 := own_ext o2 ((Below.refl _ _).drew)
      have g5 : w.grownBy w4.drew (some g) := ⟨g5.os, g5.tape, g5.output, g5.size, g5.block⟩
      have hbl0 := b0.lt
      have hbl3 := b3.lt
      go_region_law (go_simp; first
        | (go_at_call 83; refine (l01Below_c g A n c l _ q5 HN.out hm (reads_cur hr g5 hlt0) hb 500 (by decide) (by decide)).mono ?_; rintro e w6 ⟨x1, ⟨y0, y1⟩, rfl, q5, hh⟩; have b0 := blk_kept b0 hh hne0; have b3 := blk_kept b3 hh hne3; have c3 := (b3.cell 0).trans rfl; have f3 := b3.frozen 0; have o1 := own_cur o1 hh hlt0; have o2 := own_cur o2 hh hlt0; have g5 := grown_trans g5 hh; clear hh)
        | (go_at_call 84; refine (l01Text_c g A n c l _ q5 HN.out hm (reads_cur hr g5 hlt0) hb 40 (by decide) (by decide)).mono ?_; rintro e w7 ⟨s, hs, rfl, q5, hh⟩; have b0 := blk_kept b0 hh hne0; have b3 := blk_kept b3 hh hne3; have c3 := (b3.cell 0).trans rfl; have f3 := b3.frozen 0; have o1 := own_cur o1 hh hlt0; have o2 := own_cur o2 hh hlt0; have g5 := grown_trans g5 hh; clear hh; have hs2 : s.size ≤ 1048576 := (by omega))
        | (go_at_call 24; refine (specWriteMemory_c A2 5 c2 pg _ HPL.out (by omega) (Reads.of_own o2) x1 s ⟨by omega, by omega⟩ hs2).mono ?_; rintro e w8 ⟨A5, c5, rfl, o5, hbW⟩; have b0 := b0.ext hbW; have b3 := b3.ext hbW; have c3 := (b3.cell 0).trans rfl; have f3 := b3.frozen 0; have q5 := cur_below q5 hbW; have o1 := own_ext o1 hbW; have hgz := g5.size; have g5 := only_below g5 hbW; have o5 := own_base o5 (base' := w.heap.size) hgz; clear hbW))
      all_goals
        have hw0 : w3.heap.size ≠ w.heap.size := by omega
        have hwg : w3.heap.size ≠ g := by omega
        have hMM := memB_write hmn x1 s
        have hML := (writeL_len' pg x1 s).trans HPL.out
        generalize writeL pg x1 s = pq at *
        have o1 := own_set_ne (p := ⟨w3.heap.size, 0, none⟩) o1 (fun e => own_ty o1 b3 (by decide) _ e rfl) (.slice A5 5 c5)
        have o5 := own_set_ne (p := ⟨w3.heap.size, 0, none⟩) o5 (fun e => own_ty o5 b3 (by decide) _ e rfl) (.slice A5 5 c5)
        have b3 := b3.set_ 0 (.slice A5 5 c5)
        have b0 := b0.far' (p := ⟨w3.heap.size, 0, none⟩) hw0 (.slice A5 5 c5)
        have q5 := cur_fr q5 (p := ⟨w3.heap.size, 0, none⟩) hwg (.slice A5 5 c5)
        have g5 := only_setCell g5 (p := ⟨w3.heap.size, 0, none⟩) (.inr (show w.heap.size ≤ w3.heap.size by omega)) (.slice A5 5 c5)
        clear c3 f3
        generalize w8.setCell ⟨w3.heap.size, 0, none⟩ (.slice A5 5 c5) = w9 at *
        have c3 : w9.drew.cell? ⟨w3.heap.size, 0, none⟩ = some (.slice A5 5 c5) := (b3.cell 0).trans rfl
        have c0 : w9.drew.cell? ⟨w.heap.size, 0, none⟩ = some (.slice none 0 0) := (b0.cell 0).trans rfl
        have c0' : w9.cell? ⟨w.heap.size, 0, none⟩ = some (.slice none 0 0) := (b0.cell 0).trans rfl
        have f0 : w9.drew.frozen? ⟨w.heap.size, 0, none⟩ = false := b0.frozen 0
        have hbl0 := b0.lt
        have hbl3 := b3.lt
        clear hm hr hb hcur
        go_wp2_with fail
        go_region
        all_goals
          go_wp2
          refine bodyPost_ret (v := .tuple #[.slice A4 5 c4, .agg #[.slice A5 5 c5]]) (by simp [results, Try.results106, go_sem, c0']) rfl ?_
          refine ⟨ml, pq, A4, c4, A5, c5, ⟨HM.out.1, HM.out.2, hMM, hML⟩, rfl, ?_, ?_, ?_, ?_⟩
          · exact own_ext (own_set_ne o1 (fun e => own_ty o1 b0 (by decide) _ e rfl) _) ((Below.refl _ _).drew)
          · exact own_ext (own_set_ne o5 (fun e => own_ty o5 b0 (by decide) _ e rfl) _) ((Below.refl _ _).drew)
          · have h := cur_fr q5 (p := ⟨w.heap.size, 0, none⟩) (show w.heap.size ≠ g by omega) (.slice A5 5 c5)
            exact h
          · have h := only_setCell g5 (p := ⟨w.heap.size, 0, none⟩) (.inr (Nat.le_refl _)) (.slice A5 5 c5)
            exact ⟨h.os, h.tape, h.output, h.size, h.block⟩
end Go.Proofs.Ytnnlagmgdfhaiaa
