/- Contracts of the reference's draws on steering: NewTable, l12Spread. -/
import Derived.Test.YtkfekgmdjemkbaaDrawSt1
import Derived.Deep.RegionLaw
import Derived.Test.YtkfekgmdjemkbaaApp
namespace Go.Proofs.Ytkfekgmdjemkbaa
set_option linter.unusedSimpArgs false
set_option linter.unusedVariables false
open Go.RowKit Go.ChangeShapes Go.WideShapes
theorem made7 : (madeCells (.agg #[.int .i64 0, .int .i64 0, .int .i64 0, .int .i64 0, .int .i64 0, .int .i64 0, .int .i64 0] : Value).cells (8 * 7)).toList = (List.replicate 8 zeroS).flatMap Slot.cells := by
  have hc : (.agg #[.int .i64 0, .int .i64 0, .int .i64 0, .int .i64 0, .int .i64 0, .int .i64 0, .int .i64 0] : Value).cells = #[.int .i64 0, .int .i64 0, .int .i64 0, .int .i64 0, .int .i64 0, .int .i64 0, .int .i64 0] := by simp [Value.cells]
  have h : ∀ u ∈ (madeCells (.agg #[.int .i64 0, .int .i64 0, .int .i64 0, .int .i64 0, .int .i64 0, .int .i64 0, .int .i64 0] : Value).cells (8 * 7)).toList, u = .int .i64 0 := by
    intro u hu
    rw [hc] at hu
    simp only [madeCells, Array.toList_map, List.mem_map] at hu
    obtain ⟨k, _, rfl⟩ := hu
    have h7 : k % 7 < 7 := Nat.mod_lt _ (by decide)
    show (#[.int .i64 0, .int .i64 0, .int .i64 0, .int .i64 0, .int .i64 0, .int .i64 0, .int .i64 0] : Array Value)[k % 7]! = _
    generalize k % 7 = j at *
    obtain rfl | rfl | rfl | rfl | rfl | rfl | rfl : j = 0 ∨ j = 1 ∨ j = 2 ∨ j = 3 ∨ j = 4 ∨ j = 5 ∨ j = 6 := by omega
    all_goals rfl
  rw [List.eq_replicate_of_mem h, madeCells_len]; rfl
/-- The table of a new card: eight empty slots. -/
theorem newTable_c (w : World) :
    Calls Try.prog 36 #[] w fun e w' => ∃ g, e = .returned (.agg #[.slice (some ⟨g, 0, none⟩) 8 8]) ∧ w.heap.size ≤ g ∧ Blk w' g 61 ((List.replicate 8 zeroS).flatMap Slot.cells) ∧ Below w.heap.size w w' := by
  obtain ⟨i0, hi0, hz0, hz1, hz2⟩ := info_parts info_SlotD
  have hmk := fun W => run_make_rowN (P := Try.prog) 25 61 i0 _ 7 56 Try.underlying25 hi0 hz0 hz1 hz2 8 8 (Nat.le_refl _) (by omega) (by omega) W
  rw [made7] at hmk
  clear hi0 hz0 hz1 hz2
  generalize hzz : (List.replicate 8 zeroS).flatMap Slot.cells = zz at *
  clear hzz
  simp only [show ((8 : Nat) : Int) = 8 from rfl] at hmk
  go_enter Try.func36, Try.ntmps36
  go_wp2
  have hB : Blk ((w.alloc (.cells #[.slice (some ⟨w.heap.size + 1, 0, none⟩) 8 8] 27)).alloc (.cells zz.toArray 61)) (w.heap.size + 1) 61 zz := by simpa using Blk.new (w.alloc (.cells #[.slice (some ⟨w.heap.size + 1, 0, none⟩) 8 8] 27)) 61 zz
  have hC : Blk ((w.alloc (.cells #[.slice (some ⟨w.heap.size + 1, 0, none⟩) 8 8] 27)).alloc (.cells zz.toArray 61)) w.heap.size 27 [.slice (some ⟨w.heap.size + 1, 0, none⟩) 8 8] := (Blk.new w 27 [.slice (some ⟨w.heap.size + 1, 0, none⟩) 8 8]).alloc _
  have hv := loadVar_blk (P := Try.prog) hC (n := 1) rfl (by simp [go_sem]) (by simp [go_sem])
  refine bodyPost_ret (v := .agg #[.slice (some ⟨w.heap.size + 1, 0, none⟩) 8 8]) (by simp [results, Try.results36, asAddr, Result.andThen, hv]) rfl ?_
  exact ⟨w.heap.size + 1, rfl, by omega, hB, by go_grown⟩
theorem new_readsS {size n : Nat} (w : World) (xs : List Value) (e : TypeId) (h : xs.length = n * size) : Reads (w.alloc (.cells xs.toArray e)) (w.heap.size + 1) size (some ⟨w.heap.size, 0, none⟩) n xs := by
  have := (Blk.new w e xs).reads (n := n) (size := size) h
  simpa using this
theorem Blk.grow {w w1 : World} {b base s2 n : Nat} {T E : TypeId} {cs xs : List Value} {v : Value} (h : Blk w b T cs) (ho : w.ownsRow base E s2 v n xs) (hg : w.grownBy w1 v.ownBlock) (hT : E ≠ T) : Blk w1 b T cs :=
  blk_kept h hg fun e => own_ty ho h hT b e rfl
theorem spreadD_mk {x : Int} {key : ByteArray} {tb : List Int} (x0 : 0 ≤ x) (x1 : x < 4) (hk : (key.size : Int) = 16) (hl : tb.length = 1 ∨ tb.length = 2 ∨ tb.length = 4 ∨ tb.length = 8) (h : ∀ y ∈ tb, 0 ≤ y ∧ y ≤ x) : spreadB key tb (1 + x) = true := by
  have h2 : (tb.all fun y => inB y 0 (1 + x - 1)) = true := by
    rw [List.all_eq_true]; intro y hy; have := h y hy; simp only [inB, Bool.and_eq_true, decide_eq_true_eq]; omega
  simp only [spreadB, sizeB, inB, Bool.and_eq_true, Bool.or_eq_true, decide_eq_true_eq] at *
  refine ⟨⟨⟨⟨by omega, by omega⟩, by omega⟩, by omega⟩, h2⟩
/-- A drawn spread and its number of queues. -/
def DrawSp (g : Nat) (A : Option Addr) (n c : Nat) (w : World) (e : Ending) (w' : World) : Prop := ∃ (key : ByteArray) (tb : List Int) (A2 : Option Addr) (c2 : Nat) (q : Int), (spreadB key tb q = true ∧ 1 ≤ q ∧ q ≤ 4 ∧ tb.length ≤ 8) ∧ e = .returned (.tuple #[.agg #[.string key, .slice A2 tb.length c2], .int .i64 q]) ∧ w'.ownsRow w.heap.size 3 1 (.slice A2 tb.length c2) tb.length (tb.flatMap (fun x : Int => [Value.int .i64 x])) ∧ Cur w' g A n c ∧ w.grownBy w' (some g)
theorem info_intD : (Try.prog.info? 3).map (fun i => (i.zero, i.size, i.bytes)) = some (some (.int .i64 0), 1, 8) := by kernel_rfl
set_option maxRecDepth 100000 in
set_option maxHeartbeats 4000000 in
theorem l12Spread_c (g : Nat) (A : Option Addr) (n c : Nat) (l : List Int) (w : World) (hcur : Cur w g A n c) (hn : l.length = n) (hm : n ≤ 1048576) (hr : Reads w g 1 A n (l.flatMap fun x : Int => [Value.int .u8 x])) (hb : ∀ x ∈ l, 0 ≤ x ∧ x ≤ 255) :
    Calls Try.prog 37 #[.pointer (some ⟨g, 0, none⟩)] w (DrawSp g A n c w) := by
  obtain ⟨i0, hi0, hz0, hz1, hz2⟩ := info_parts info_intD
  have hlt0 := hcur.lt
  have HN := Lib.hid hn
  clear hn
  go_enter Try.func37, Try.ntmps37
  have q := hcur
  have gg : w.grownBy w (some g) := World.grownBy.refl _ _
  have sz0 : w.heap.size ≤ w.heap.size := Nat.le_refl _
  go_wp2_with fail
  obtain ⟨w1, hW0⟩ : ∃ W, W = w.alloc (.cells #[.string ⟨#[]⟩, .slice none 0 0] 30) := ⟨_, rfl⟩
  have lo0 : w.heap.size ≤ w.heap.size := by omega
  have ne0 : some g ≠ some (w.heap.size) := fun e => by injection e with e; omega
  have hk0 : Blk w1 (w.heap.size) 30 [.string ⟨#[]⟩, .slice none 0 0] := by rw [hW0]; exact Blk.new _ _ _
  replace q : Cur w1 g A n c := by rw [hW0]; exact q.alloc _
  replace gg : w.grownBy w1 (some g) := by rw [hW0]; exact grown_al gg _
  have bl0 := hk0.lt
  have lw_ : w.heap.size ≤ w1.heap.size := by rw [hW0]; simp
  rw [← hW0]
  clear hW0
  have le_ : w.heap.size ≤ w1.heap.size := lw_
  clear sz0 le_
  have sz0 := gg.size
  clear lw_
  refine (l01Below_c g A n c l _ q HN.out hm (reads_cur hr gg hlt0) hb 4 (by omega) (by omega)).mono ?_
  rintro e w2 ⟨x, ⟨x0, x1⟩, rfl, q1, hh⟩
  replace hk0 := blk_kept hk0 hh ne0
  replace gg := grown_trans gg hh
  have le_ : w1.heap.size ≤ w2.heap.size := hh.size
  replace bl0 := Nat.lt_of_lt_of_le bl0 le_
  clear sz0 le_
  have sz0 := gg.size
  replace q := q1
  clear q1 hh
  have ew1 : IntKind.i64.wrap (1 + x) = 1 + x := IntWalk.i64_in _ ⟨by omega, by omega⟩
  go_wp2_with fail
  refine (l11Key_c g A n c l _ q HN.out hm (reads_cur hr gg hlt0) hb).mono ?_
  rintro e w3 ⟨key, hkey, rfl, q1, hh⟩
  replace hk0 := blk_kept hk0 hh ne0
  replace gg := grown_trans gg hh
  have le_ : w2.heap.size ≤ w3.heap.size := hh.size
  replace bl0 := Nat.lt_of_lt_of_le bl0 le_
  clear sz0 le_
  have sz0 := gg.size
  replace q := q1
  clear q1 hh
  go_wp2_with fail
  obtain ⟨w4, hW0⟩ : ∃ W, W = w3.alloc (.cells #[.string key, .slice none 0 0] 30) := ⟨_, rfl⟩
  replace hk0 : Blk w4 (w.heap.size) 30 [.string ⟨#[]⟩, .slice none 0 0] := by rw [hW0]; exact hk0.alloc _
  have lo1 : w.heap.size ≤ w3.heap.size := by omega
  have ne1 : some g ≠ some (w3.heap.size) := fun e => by injection e with e; omega
  have df0_1 : w.heap.size < w3.heap.size := by omega
  have hk1 : Blk w4 (w3.heap.size) 30 [.string key, .slice none 0 0] := by rw [hW0]; exact Blk.new _ _ _
  replace q : Cur w4 g A n c := by rw [hW0]; exact q.alloc _
  replace gg : w.grownBy w4 (some g) := by rw [hW0]; exact grown_al gg _
  have bl1 := hk1.lt
  have lw_ : w3.heap.size ≤ w4.heap.size := by rw [hW0]; simp
  have ez0 : w4.heap.size = w3.heap.size + 1 := by rw [hW0]; simp
  rw [← hW0]
  clear hW0
  have le_ : w3.heap.size ≤ w4.heap.size := lw_
  replace bl0 := Nat.lt_of_lt_of_le bl0 le_
  clear sz0 le_
  have sz0 := gg.size
  clear lw_
  obtain ⟨w5, hW0⟩ : ∃ W, W = w4.alloc (.cells #[.int .i64 1, .int .i64 2, .int .i64 4, .int .i64 8] 3) := ⟨_, rfl⟩
  replace hk0 : Blk w5 (w.heap.size) 30 [.string ⟨#[]⟩, .slice none 0 0] := by rw [hW0]; exact hk0.alloc _
  replace hk1 : Blk w5 (w3.heap.size) 30 [.string key, .slice none 0 0] := by rw [hW0]; exact hk1.alloc _
  have lo2 : w.heap.size ≤ w3.heap.size + 1 := by omega
  have ne2 : some g ≠ some (w3.heap.size + 1) := fun e => by injection e with e; omega
  have df0_2 : w.heap.size < w3.heap.size + 1 := by omega
  have df1_2 : w3.heap.size < w3.heap.size + 1 := by omega
  have hk2 : Blk w5 (w3.heap.size + 1) 3 [.int .i64 1, .int .i64 2, .int .i64 4, .int .i64 8] := by rw [hW0, ← ez0]; exact Blk.new _ _ _
  replace q : Cur w5 g A n c := by rw [hW0]; exact q.alloc _
  replace gg : w.grownBy w5 (some g) := by rw [hW0]; exact grown_al gg _
  have bl2 := hk2.lt
  have lw_ : w4.heap.size ≤ w5.heap.size := by rw [hW0]; simp
  rw [← hW0]
  clear hW0
  have le_ : w4.heap.size ≤ w5.heap.size := lw_
  replace bl0 := Nat.lt_of_lt_of_le bl0 le_
  replace bl1 := Nat.lt_of_lt_of_le bl1 le_
  clear sz0 le_
  have sz0 := gg.size
  clear lw_
  clear ez0
  refine (l01PickInt_c g A n c l _ q HN.out hm (reads_cur hr gg hlt0) hb _ 4 [1, 2, 4, 8] hk2 (by omega) rfl (by omega) (by omega)).mono ?_
  rintro e w6 ⟨kk, i_kk, rfl, q1, hh⟩
  replace hk0 := blk_kept hk0 hh ne0
  replace hk1 := blk_kept hk1 hh ne1
  replace hk2 := blk_kept hk2 hh ne2
  replace gg := grown_trans gg hh
  have le_ : w5.heap.size ≤ w6.heap.size := hh.size
  replace bl0 := Nat.lt_of_lt_of_le bl0 le_
  replace bl1 := Nat.lt_of_lt_of_le bl1 le_
  replace bl2 := Nat.lt_of_lt_of_le bl2 le_
  clear sz0 le_
  have sz0 := gg.size
  replace q := q1
  clear q1 hh
  clear hk2 ne2 bl2 lo2 df0_2 df1_2
  have hkk : kk = 1 ∨ kk = 2 ∨ kk = 4 ∨ kk = 8 := by simpa [List.mem_cons] using i_kk
  clear i_kk
  have hB10 : w3.heap.size ≠ w.heap.size := by omega
  have hBg : w3.heap.size ≠ g := by omega
  have hB1g : w.heap.size ≤ w3.heap.size := lo1
  generalize w3.heap.size = b1 at *
  clear df0_1 lo1
  go_wp2_with fail
  go_loopw [6] (fun i wr => ∃ (k : Int) (j : Nat) (tb : List Int) (A2 : Option Addr) (c2 : Nat), i = .int .i64 k ∧ 0 ≤ k ∧ (j : Int) + k = kk ∧ Hid (tb.length = j ∧ ∀ y ∈ tb, 0 ≤ y ∧ y ≤ x) ∧ Blk wr w.heap.size 30 [.string ⟨#[]⟩, .slice none 0 0] ∧ Blk wr b1 30 [.string key, .slice A2 j c2] ∧ wr.ownsRow w.heap.size 3 1 (.slice A2 j c2) j (tb.flatMap (fun x : Int => [Value.int .i64 x])) ∧ Cur wr g A n c ∧ w.grownBy wr (some g)) (fun i _ => (intOf i).toNat)
  case atStart => exact ⟨kk, 0, [], none, 0, rfl, by omega, by omega, ⟨rfl, by simp⟩, hk0, hk1, own_nil _ _ _ _, q, gg⟩
  case round =>
    obtain ⟨k, j, tb, A2, c2, rfl, hk00, hjk, hT, hb0, hb1, own2, q2, hg2⟩ := hrel
    clear hk0 hk1 q gg
    have hzr := hg2.size
    have hbl1 := hb1.lt
    have hbl0 := hb0.lt
    by_cases hlt : 0 < k
    · have s1 := hb1.at_ 1 _ rfl
      go_wp2_with fail
      have hdr : Below wr.heap.size wr wr.drew := (Below.refl _ _).drew
      have sd1 := ccell hdr _ _ _ s1
      have qd : Cur wr.drew g A n c := q2
      have bd := hb0.ext hdr
      have dd := hb1.ext hdr
      have od := own_ext own2 hdr
      have gd : w.grownBy wr.drew (some g) := ⟨hg2.os, hg2.tape, hg2.output, hg2.size, hg2.block⟩
      clear hdr
      go_region_law (first
        | (refine step_append_any _ (by rfl) _ _ 28 (by rfl) w.heap.size 3 i0 (.int .i64 0) 1 8 Try.underlying28 hi0 hz0 hz1 hz2 rfl (by decide) _ j (tb.flatMap (fun x : Int => [Value.int .i64 x])) (by rfl) (o6.alloc _) (w6.heap.size + 1) (some ⟨w6.heap.size, 0, none⟩) 1 1 [.int .i64 y] (by rfl) (new_readsS _ _ _ rfl) (by intro u hu; simp only [List.mem_cons, List.not_mem_nil, or_false] at hu; subst hu; rfl) (by unfold maxLen; omega) (by omega) (by simp only [World.size_alloc]; omega) ?_; intro v3 w3 hown3 hg3 hat3; obtain ⟨A3, c3, rfl, _, _, _⟩ := own_form hown3; have q3 := cur_kept (q6.alloc _) hg3 (fun e => by have := (o6.lt _ e).1; omega); have g3 := grown_own (grown_al g6 _) (o6.alloc _) hg3; have b3 := Blk.grow (b6.alloc _) (o6.alloc _) hg3 (by decide); have d3 := Blk.grow (d6.alloc _) (o6.alloc _) hg3 (by decide); have f3 := d3.frozen 1; have s3 := d3.at_ 1 _ rfl; have hl3 := d3.lt)
        | (go_simp; (go_at_call 40; refine (l01Below_c g A n c l _ qd HN.out hm (reads_cur hr gd hlt0) hb (1 + x) (by omega) (by omega)).mono ?_; rintro e w6 ⟨y, ⟨y0, y1⟩, rfl, q6, hh⟩; have b6 := blk_kept bd hh ne0; have d6 := blk_kept dd hh ne1; have o6 := own_cur od hh hlt0; have g6 := grown_trans gd hh; have s0 := d6.at_ 0 _ rfl; have s1 := d6.at_ 1 _ rfl; have f1 := d6.frozen 1; have hs6 := hh.size; have hl6 := d6.lt; clear hh)))
      all_goals
        have b4 := Blk.far' b3 (p := ⟨b1, 1, none⟩) hB10 (.slice A3 (j + 1) c3)
        have d4 := d3.set_ 1 (.slice A3 (j + 1) c3)
        have q4 := cur_fr q3 (p := ⟨b1, 1, none⟩) hBg (.slice A3 (j + 1) c3)
        have g4 := only_setCell g3 (p := ⟨b1, 1, none⟩) (.inr hB1g) (.slice A3 (j + 1) c3)
        have o4 := own_set_ne hown3 (p := ⟨b1, 1, none⟩) (fun e => own_ty hown3 d3 (by decide) _ e rfl) (.slice A3 (j + 1) c3)
        go_wp2
        go_roundw
        case rel => exact ⟨k - 1, j + 1, tb ++ [y], A3, c3, by go_num, by omega, by omega, ⟨by simp [hT.out.1], fun z hz => by
          rcases List.mem_append.1 hz with hz | hz
          · exact hT.out.2 z hz
          · simp at hz; subst hz; omega⟩, b4, d4, by rw [List.flatMap_append]; exact o4, q4, g4⟩
        case measure => simp [intOf]; omega
    · have hk0' : k = 0 := by omega
      subst hk0'
      have s0 := hb1.at_ 0 _ rfl
      have s1 := hb1.at_ 1 _ rfl
      have z0 := hb0.at_ 0 _ rfl
      have z1 := hb0.at_ 1 _ rfl
      have fz0 := hb0.frozen 0
      have fz1 := hb0.frozen 1
      have e4 := (hb0.set_ 0 (.string key)).set_ 1 (.slice A2 j c2)
      have q4 := cur_fr (cur_fr q2 (p := ⟨w.heap.size, 0, none⟩) (show w.heap.size ≠ g by omega) (.string key)) (p := ⟨w.heap.size, 1, none⟩) (show w.heap.size ≠ g by omega) (.slice A2 j c2)
      have g4 := only_setCell (only_setCell hg2 (p := ⟨w.heap.size, 0, none⟩) (.inr (Nat.le_refl _)) (.string key)) (p := ⟨w.heap.size, 1, none⟩) (.inr (Nat.le_refl _)) (.slice A2 j c2)
      have nn := own_ty own2 hb0 (by decide)
      have o4 := own_set_ne (own_set_ne own2 (p := ⟨w.heap.size, 0, none⟩) (fun e => nn _ e rfl) (.string key)) (p := ⟨w.heap.size, 1, none⟩) (fun e => nn _ e rfl) (.slice A2 j c2)
      go_wp2
      have hv := loadVar_blk (P := Try.prog) e4 (n := 2) rfl (by simp [go_sem]) (by simp [go_sem])
      refine bodyPost_ret (v := .tuple #[.agg #[.string key, .slice A2 j c2], .int .i64 (1 + x)]) (by simp [results, Try.results37, asAddr, Result.andThen, hv]) rfl ?_
      obtain ⟨hT1, hT2⟩ := hT.out
      subst hT1
      exact ⟨key, tb, A2, c2, 1 + x, ⟨spreadD_mk x0 x1 hkey (by omega) hT2, by omega, by omega, by omega⟩, rfl, o4, q4, g4⟩
end Go.Proofs.Ytkfekgmdjemkbaa
