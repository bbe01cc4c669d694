/- Contracts of the reference's draws: l01PickInt, l20Entries, l20Ring. -/
import Derived.Test.YtnnlagmgdfhaiaaDrawLst
import Derived.Test.YtnnlagmgdfhaiaaDrawMem
import Derived.Deep.RegionLaw
import Derived.Test.YtnnlagmgdfhaiaaRing
namespace Go.Proofs.Ytnnlagmgdfhaiaa
set_option linter.unusedSimpArgs false
set_option linter.unusedVariables false
open Go.RowKit Go.ChangeShapes Go.WideShapes
theorem cur_fr {w : World} {g : Nat} {A : Option Addr} {n c : Nat} (h : Cur w g A n c) {p : Addr} (hp : p.block ≠ g) (u : Value) : Cur (w.setCell p u) g A n c := by
  obtain ⟨i, k, hk, r⟩ := h; exact ⟨i, k, hk.far' hp u, r⟩
set_option maxRecDepth 100000 in
set_option maxHeartbeats 2000000 in
theorem l01PickInt_c (g : Nat) (A : Option Addr) (n c : Nat) (l : List Int) (w : World) (hcur : Cur w g A n c) (hn : l.length = n) (hm : n ≤ 1048576) (hr : Reads w g 1 A n (l.flatMap fun x : Int => [Value.int .u8 x])) (hb : ∀ x ∈ l, 0 ≤ x ∧ x ≤ 255) (b m : Nat) (ls : List Int) (hB : Blk w b 3 (ls.map fun x : Int => Value.int .i64 x)) (hbg : b ≠ g) (hl : ls.length = m) (h0 : 0 < m) (h1 : m ≤ 1000) :
    Calls Try.prog 141 #[.pointer (some ⟨g, 0, none⟩), .slice (some ⟨b, 0, none⟩) m m] w (DrawI (fun x => x ∈ ls) g A n c w) := by
  go_enter Try.func141, Try.ntmps141
  go_wp2_with fail
  refine (l01Below_c g A n c l _ hcur hn hm hr hb (m : Int) (by omega) (by omega)).mono ?_
  rintro e w1 ⟨i, ⟨i0, i1⟩, rfl, q1, hh⟩
  have B1 := blk_kept hB hh (fun e => hbg (by injection e with e; exact e.symm))
  obtain ⟨k, rfl⟩ := Int.eq_ofNat_of_zero_le i0
  have hk : k < ls.length := by omega
  have c0 : w1.cell? ⟨b, k, none⟩ = some (.int .i64 ls[k]) := (B1.cell k).trans (by rw [List.getElem?_map, List.getElem?_eq_getElem hk]; rfl)
  have hin : ls[k] ∈ ls := List.getElem_mem hk
  generalize ls[k] = x at *
  have hbl := B1.lt
  go_wp2
  go_ret
  exact ⟨x, hin, rfl, q1, hh⟩
theorem info_strD : (Try.prog.info? 9).map (fun i => (i.zero, i.size, i.bytes)) = some (some (.string ByteArray.empty), 1, 16) := by kernel_rfl
/-- Drawn entries: at most five texts of sixteen bytes. -/
def DrawE (g : Nat) (A : Option Addr) (n c : Nat) (w : World) (e : Ending) (w' : World) : Prop := ∃ (es : List ByteArray) (A2 : Option Addr) (c2 : Nat), (es.length ≤ 5 ∧ ∀ s ∈ es, s.size = 16) ∧ e = .returned (.slice A2 es.length c2) ∧ w'.ownsRow w.heap.size 9 1 (.slice A2 es.length c2) es.length (es.flatMap fun x : ByteArray => [Value.string x]) ∧ Cur w' g A n c ∧ w.grownBy w' (some g)
theorem flat_snocS (l : List ByteArray) (x : ByteArray) : (l ++ [x]).flatMap (fun x : ByteArray => [Value.string x]) = l.flatMap (fun x : ByteArray => [Value.string x]) ++ [Value.string x] := by simp
set_option maxRecDepth 100000 in
set_option maxHeartbeats 4000000 in
theorem l20Entries_c (g : Nat) (A : Option Addr) (n c : Nat) (l : List Int) (w : World) (hcur : Cur w g A n c) (hn : l.length = n) (hm : n ≤ 1048576) (hr : Reads w g 1 A n (l.flatMap fun x : Int => [Value.int .u8 x])) (hb : ∀ x ∈ l, 0 ≤ x ∧ x ≤ 255) :
    Calls Try.prog 108 #[.pointer (some ⟨g, 0, none⟩)] w (DrawE g A n c w) := by
  obtain ⟨i0, hi, hz0, hz1, hz2⟩ := info_parts info_strD
  have hlt0 := hcur.lt
  have HN := Lib.hid hn
  clear hn
  go_enter Try.func108, Try.ntmps108
  go_wp2_with fail
  refine (l01Below_c g A n c l _ (hcur.alloc _) HN.out hm (reads_cur hr (grown_al (World.grownBy.refl _ _) _) hlt0) hb 6 (by decide) (by decide)).mono ?_
  rintro e w1 ⟨xk, ⟨k0, k1⟩, rfl, q1, hh⟩
  have own1 := own_cur (own_empty (Blk.new w 9 []) (Nat.le_refl _) (size := 1)) hh hlt0
  have g1 := grown_trans (grown_al (World.grownBy.refl w (some g)) _) hh
  clear hh
  go_wp2
  go_loopw [3, 4] (fun v i wr => ∃ (k : Int) (es : List ByteArray) (j : Nat) (u : Value), v = u ∧ i = .int .i64 k ∧ 0 ≤ k ∧ (j : Int) + k ≤ 5 ∧ Hid (es.length = j) ∧ Hid (∀ s ∈ es, s.size = 16) ∧ wr.ownsRow w.heap.size 9 1 u j (es.flatMap fun x : ByteArray => [Value.string x]) ∧ Cur wr g A n c ∧ w.grownBy wr (some g)) (fun _ i _ => (intOf i).toNat)
  case atStart => exact ⟨xk, [], 0, _, rfl, rfl, by omega, by omega, Lib.hid rfl, Lib.hid (by simp), own1, q1, g1⟩
  case round =>
    obtain ⟨k, es, j, u, hu, rfl, hk0, hk, HJ, HP, own2, q2, hg2⟩ := hrel
    have hu := hu.symm
    subst hu
    clear own1 q1 g1
    have hzr := hg2.size
    by_cases hlt : 0 < k
    · go_wp2_with fail
      refine (l01Text_c g A n c l _ q2 HN.out hm (reads_cur hr hg2 hlt0) hb 16 (by decide) (by decide)).mono ?_
      rintro e w3 ⟨s, hs, rfl, q4, hh⟩
      have own4 := own_cur own2 hh hlt0
      have hg4 := grown_trans hg2 hh
      have HS := Lib.hid (show s.size = 16 by omega)
      clear hh own2
      go_wp2_with (at_builtin; refine wpList_append_own _ rfl _ _ 37 rfl w.heap.size 9 i0 (.string ByteArray.empty) 1 16 Try.underlying37 hi hz0 hz1 hz2 rfl (by decide) _ _ _ rfl (own4.alloc _) ⟨w3.heap.size, 0, none⟩ 1 1 [.string s] rfl rfl (cells_new _ _ _) ?c2 ?c3 ?c4 ?c5 ?_; (case c2 => (intro u hu; simp at hu; subst hu; rfl)); (case c3 => (unfold maxLen; omega)); (case c4 => omega); (case c5 => (simp only [World.size_alloc]; have := hg4.size; omega)); intro v2 w4 hown2 hg5 hn2; have hq2 := cur_kept (q4.alloc _) hg5 (fun e => by have := (own4.lt _ e).1; omega); have hg6 := grown_own (grown_al hg4 _) (own4.alloc _) hg5; clear hn2 hg5)
      go_roundw
      case rel => exact ⟨k - 1, es ++ [s], j + 1, v2, rfl, rfl, by omega, by omega, Lib.hid (by simp [HJ.out]), Lib.hid (fun x hx => by
        rcases List.mem_append.1 hx with hx | hx
        · exact HP.out x hx
        · simp at hx; subst hx; exact HS.out), by rw [flat_snocS]; exact hown2, hq2, hg6⟩
      case measure => simp [intOf]; omega
    · go_wp2
      go_ret
      obtain ⟨A2, c2, rfl, _, _, _⟩ := own_form own2
      have hj := HJ.out
      subst hj
      exact ⟨es, A2, c2, ⟨by omega, HP.out⟩, rfl, own2, q2, hg2⟩
/-- A drawn ring: sound, small. -/
def ringD (base size head tail : Int) : Prop := ringB base size head tail = true ∧ 0 ≤ base ∧ base ≤ 256 ∧ (size = 2 ∨ size = 4 ∨ size = 8) ∧ 0 ≤ head ∧ head < 2 * size ∧ 0 ≤ tail ∧ tail < 2 * size
def DrawR (g : Nat) (A : Option Addr) (n c : Nat) (w : World) (e : Ending) (w' : World) : Prop := ∃ base size head tail : Int, ringD base size head tail ∧ e = .returned (.agg #[.int .i64 base, .int .i64 size, .int .i64 head, .int .i64 tail]) ∧ Cur w' g A n c ∧ w.grownBy w' (some g)
theorem ringD_mk {base size head x : Int} (hb : base ∈ [0, 64, 128, 256]) (hs : size = 2 ∨ size = 4 ∨ size = 8) (h0 : 0 ≤ head) (h1 : head < 2 * size) (x0 : 0 ≤ x) (x1 : x ≤ size) : ringD base size head ((head + x) % (2 * size)) := by
  have hb2 : 0 ≤ base ∧ base ≤ 256 := by simp at hb; omega
  have m0 := Int.emod_nonneg (head + x) (show 2 * size ≠ 0 by omega)
  have m1 := Int.emod_lt_of_pos (head + x) (show 0 < 2 * size by omega)
  have hu : ((head + x) % (2 * size) - head) % (2 * size) = x := by
    rcases hs with rfl | rfl | rfl <;> omega
  refine ⟨?_, hb2.1, hb2.2, hs, h0, h1, m0, m1⟩
  have hsz : szB size = true := (szB_iff size).2 (by omega)
  have h4 : (head + x) % (2 * size) ≤ 2 * size - 1 := by omega
  have h5 : head ≤ 2 * size - 1 := by omega
  generalize (head + x) % (2 * size) = tl at *
  simp only [ringB, usedI, hsz, if_true, hu, inB, Bool.and_eq_true, decide_eq_true_eq, h0, h4, h5, m0, x1, and_true, true_and]
  omega
set_option maxRecDepth 100000 in
set_option maxHeartbeats 4000000 in
theorem l20Ring_c (g : Nat) (A : Option Addr) (n c : Nat) (l : List Int) (w : World) (hcur : Cur w g A n c) (hn : l.length = n) (hm : n ≤ 1048576) (hr : Reads w g 1 A n (l.flatMap fun x : Int => [Value.int .u8 x])) (hb : ∀ x ∈ l, 0 ≤ x ∧ x ≤ 255) :
    Calls Try.prog 107 #[.pointer (some ⟨g, 0, none⟩)] w (DrawR g A n c w) := by
  have hlt0 := hcur.lt
  have HN := Lib.hid hn
  clear hn
  have hne0 : some g ≠ some w.heap.size := fun e => by injection e with e; omega
  have B0 := Blk.new w 69 [.int .i64 0, .int .i64 0, .int .i64 0, .int .i64 0]
  have g0 : w.grownBy (w.alloc (.cells #[.int .i64 0, .int .i64 0, .int .i64 0, .int .i64 0] 69)) (some g) := grown_al (World.grownBy.refl _ _) _
  have q0 := hcur.alloc (.cells #[.int .i64 0, .int .i64 0, .int .i64 0, .int .i64 0] 69)
  generalize hW : w.alloc (.cells #[.int .i64 0, .int .i64 0, .int .i64 0, .int .i64 0] 69) = wa at *
  have hza := g0.size
  have hwa : w.heap.size < wa.heap.size := B0.lt
  have D1 := Blk.new wa 3 [.int .i64 0, .int .i64 64, .int .i64 128, .int .i64 256]
  have B1 := B0.alloc (.cells #[.int .i64 0, .int .i64 64, .int .i64 128, .int .i64 256] 3)
  have q1 := q0.alloc (.cells #[.int .i64 0, .int .i64 64, .int .i64 128, .int .i64 256] 3)
  have g1 := grown_al g0 (.cells #[.int .i64 0, .int .i64 64, .int .i64 128, .int .i64 256] 3)
  go_enter Try.func107, Try.ntmps107
  go_wp2_with fail
  (try simp only [hW])
  refine (l01PickInt_c g A n c l _ q1 HN.out hm (reads_cur hr g1 hlt0) hb wa.heap.size 4 [0, 64, 128, 256] D1 (by omega) rfl (by omega) (by omega)).mono ?_
  rintro e w1 ⟨base, hbase, rfl, q2, hh⟩
  have g2 := grown_trans g1 hh
  have B2 := blk_kept B1 hh hne0
  have hz2 := hh.size
  simp only [World.size_alloc] at hz2
  clear hh B1 D1 q1 g1 B0 q0 g0
  have D3 := Blk.new w1 3 [.int .i64 2, .int .i64 4, .int .i64 8]
  have B3 := B2.alloc (.cells #[.int .i64 2, .int .i64 4, .int .i64 8] 3)
  have q3 := q2.alloc (.cells #[.int .i64 2, .int .i64 4, .int .i64 8] 3)
  have g3 := grown_al g2 (.cells #[.int .i64 2, .int .i64 4, .int .i64 8] 3)
  go_wp2_with fail
  refine (l01PickInt_c g A n c l _ q3 HN.out hm (reads_cur hr g3 hlt0) hb w1.heap.size 3 [2, 4, 8] D3 (by omega) rfl (by omega) (by omega)).mono ?_
  rintro e w2 ⟨size, hsize, rfl, q4, hh⟩
  have g4 := grown_trans g3 hh
  have B4 := blk_kept B3 hh hne0
  have hz4 := hh.size
  simp only [World.size_alloc] at hz4
  clear hh B3 D3 q3 g3 B2 q2 g2
  have hs : size = 2 ∨ size = 4 ∨ size = 8 := by simpa using hsize
  clear hsize
  have hne2 : some g ≠ some w2.heap.size := fun e => by injection e with e; omega
  have D5 := Blk.new w2 69 [.int .i64 base, .int .i64 size, .int .i64 0, .int .i64 0]
  have B5 := B4.alloc (.cells #[.int .i64 base, .int .i64 size, .int .i64 0, .int .i64 0] 69)
  have q5 := q4.alloc (.cells #[.int .i64 base, .int .i64 size, .int .i64 0, .int .i64 0] 69)
  have g5 := grown_al g4 (.cells #[.int .i64 base, .int .i64 size, .int .i64 0, .int .i64 0] 69)
  have hw2 : IntKind.i64.wrap (2 * size) = 2 * size := IntWalk.i64_in _ ⟨by omega, by omega⟩
  go_wp2_with fail
  refine (l01Below_c g A n c l _ q5 HN.out hm (reads_cur hr g5 hlt0) hb (2 * size) (by omega) (by omega)).mono ?_
  rintro e w3 ⟨head, ⟨h0, h1⟩, rfl, q6, hh⟩
  have g6 := grown_trans g5 hh
  have b0 := blk_kept B5 hh hne0
  have D6 := blk_kept D5 hh hne2
  clear hh B5 D5 q5 g5 B4 q4 g4
  have c0 := (D6.cell 0).trans rfl
  have f0 := D6.frozen 0
  have c1 := (D6.cell 1).trans rfl
  have f1 := D6.frozen 1
  have c2 := (D6.cell 2).trans rfl
  have f2 := D6.frozen 2
  have c3 := (D6.cell 3).trans rfl
  have f3 := D6.frozen 3
  have hlt2 := D6.lt
  have hgw : w2.heap.size ≠ g := by omega
  have hw0 : w2.heap.size ≠ w.heap.size := by omega
  have b3 := D6.set_ 2 (.int .i64 head)
  have q7 := cur_fr q6 (p := ⟨w2.heap.size, 2, none⟩) hgw (.int .i64 head)
  have g7 := only_setCell g6 (p := ⟨w2.heap.size, 2, none⟩) (.inr (show w.heap.size ≤ w2.heap.size by omega)) (.int .i64 head)
  have b0 := b0.far' (p := ⟨w2.heap.size, 2, none⟩) hw0 (.int .i64 head)
  have hw4 : IntKind.i64.wrap (size + 1) = size + 1 := IntWalk.i64_in _ ⟨by omega, by omega⟩
  have hne4 : (2 * size == 0) = false := by simp; omega
  go_wp2_with fail
  clear D6 q6 g6 c0 f0 c1 f1 c2 f2 c3 f3
  generalize hX : w3.setCell ⟨w2.heap.size, 2, none⟩ (.int .i64 head) = w4 at *
  clear hX
  have b3 : Blk w4.drew w2.heap.size 69 [.int .i64 base, .int .i64 size, .int .i64 head, .int .i64 0] := b3
  have b0 : Blk w4.drew w.heap.size 69 [.int .i64 0, .int .i64 0, .int .i64 0, .int .i64 0] := b0
  have q7 : Cur w4.drew g A n c := q7
  have g7 : w.grownBy w4.drew (some g) := ⟨g7.os, g7.tape, g7.output, g7.size, g7.block⟩
  have hlt2 := b3.lt
  have hlt9 := b0.lt
  have c0 : w4.drew.cell? ⟨w2.heap.size, 0, none⟩ = some (.int .i64 base) := (b3.cell 0).trans rfl
  have c1 : w4.drew.cell? ⟨w2.heap.size, 1, none⟩ = some (.int .i64 size) := (b3.cell 1).trans rfl
  have c2 : w4.drew.cell? ⟨w2.heap.size, 2, none⟩ = some (.int .i64 head) := (b3.cell 2).trans rfl
  have c3 : w4.drew.cell? ⟨w2.heap.size, 3, none⟩ = some (.int .i64 0) := (b3.cell 3).trans rfl
  have f0 := b3.frozen 0
  have f1 := b3.frozen 1
  have f2 := b3.frozen 2
  have f3 := b3.frozen 3
  go_region_law (go_simp; first
    | (go_at_call 83; refine (l01Below_c g A n c l _ q7 HN.out hm (reads_cur hr g7 hlt0) hb (size + 1) (by omega) (by omega)).mono ?_; rintro e w5 ⟨x, ⟨x0, x1⟩, rfl, q7, hh⟩; have hw5 : IntKind.i64.wrap (head + x) = head + x := IntWalk.i64_in _ (And.intro (by omega) (by omega)); have h2s : ¬ (2 * size = 0) := (by omega); have ht : (head + x).tmod (2 * size) = (head + x) % (2 * size) := Int.tmod_eq_emod_of_nonneg (by omega); have b3 := blk_kept b3 hh hne2; have b0 := blk_kept b0 hh hne0; have g7 := grown_trans g7 hh; clear hh c0 f0 c1 f1 c2 f2 c3 f3; have c0 := (b3.cell 0).trans rfl; have f0 := b3.frozen 0; have c1 := (b3.cell 1).trans rfl; have f1 := b3.frozen 1; have c2 := (b3.cell 2).trans rfl; have f2 := b3.frozen 2; have c3 := (b3.cell 3).trans rfl; have f3 := b3.frozen 3))
  all_goals
    have b3 := b3.set_ 3 (.int .i64 ((head + x) % (2 * size)))
    have b0 := b0.far' (p := ⟨w2.heap.size, 3, none⟩) hw0 (.int .i64 ((head + x) % (2 * size)))
    have q8 := cur_fr q7 (p := ⟨w2.heap.size, 3, none⟩) hgw (.int .i64 ((head + x) % (2 * size)))
    have g8 := only_setCell g7 (p := ⟨w2.heap.size, 3, none⟩) (.inr (show w.heap.size ≤ w2.heap.size by omega)) (.int .i64 ((head + x) % (2 * size)))
    have hR := ringD_mk hbase hs h0 h1 x0 (show x ≤ size by omega)
    generalize w5.setCell ⟨w2.heap.size, 3, none⟩ (.int .i64 ((head + x) % (2 * size))) = w6 at *
    generalize (head + x) % (2 * size) = tl at *
    clear q7 g7 hW hbase hs h0 h1 x0 x1 hw2 hw4 hw5 h2s ht hne4 hm hr hb HN hcur c0 f0 c1 f1 c2 f2 c3 f3
    have c0 : w6.cell? ⟨w2.heap.size, 0, none⟩ = some (.int .i64 base) := (b3.cell 0).trans rfl
    have c1 : w6.cell? ⟨w2.heap.size, 1, none⟩ = some (.int .i64 size) := (b3.cell 1).trans rfl
    have c2 : w6.cell? ⟨w2.heap.size, 2, none⟩ = some (.int .i64 head) := (b3.cell 2).trans rfl
    have c3 : w6.cell? ⟨w2.heap.size, 3, none⟩ = some (.int .i64 tl) := (b3.cell 3).trans rfl
    have d0 := (b0.cell 0).trans rfl
    have e0 := b0.frozen 0
    have d1 := (b0.cell 1).trans rfl
    have e1 := b0.frozen 1
    have d2 := (b0.cell 2).trans rfl
    have e2 := b0.frozen 2
    have d3 := (b0.cell 3).trans rfl
    have e3 := b0.frozen 3
    have hl5 := b0.lt
    go_wp2
    refine bodyPost_ret (v := .agg #[.int .i64 base, .int .i64 size, .int .i64 head, .int .i64 tl]) (by simp [results, Try.results107, go_sem, d0, d1, d2, d3]) rfl ?_
    have hwg : w.heap.size ≠ g := by omega
    exact ⟨base, size, head, tl, hR, rfl, cur_fr (cur_fr (cur_fr (cur_fr q8 hwg _) hwg _) hwg _) hwg _, only_setCell (only_setCell (only_setCell (only_setCell g8 (.inr (Nat.le_refl _)) _) (.inr (Nat.le_refl _)) _) (.inr (Nat.le_refl _)) _) (.inr (Nat.le_refl _)) _⟩
end Go.Proofs.Ytnnlagmgdfhaiaa
